/- The types, the functions and the loops' live slots that the laws reach, first part. No conditions. -/
import Derived.Test.YthbekdccfleaoaaDoorEngS
import Derived.Test.YthbekdccfleaoaaDoorProg
import Derived.KernelRfl
import Derived.Test.YthbekdccfleaoaaDoorShelf
namespace Go.Proofs.YthbekdccfleaoaaDoor.Eng
open Go Go.Proofs
set_option maxRecDepth 100000
def T : Tab
  | 3 => some ⟨.int .i64, 1, 8, [.int .i64 0], true⟩
  | 4 => some ⟨.bool, 1, 1, [.bool false], true⟩
  | 5 => some ⟨.int .u8, 1, 1, [.int .u8 0], true⟩
  | 9 => some ⟨.str, 1, 16, [.string ByteArray.empty], true⟩
  | 22 => some ⟨(.slice 9), 1, 24, [.slice none 0 0], false⟩
  | 28 => some ⟨(.slice 3), 1, 24, [.slice none 0 0], false⟩
  | 41 => some ⟨(.slice 97), 1, 24, [.slice none 0 0], false⟩
  | 45 => some ⟨(.slice 5), 1, 24, [.slice none 0 0], false⟩
  | 89 => some ⟨.ifc, 1, 16, [.nilIface], false⟩
  | 97 => some ⟨(.struct [(0, 1, false), (1, 1, false)]), 2, 16, [.int .i64 0, .int .i64 0], true⟩
  | 102 => some ⟨(.ptr 105), 1, 8, [.pointer none], false⟩
  | 103 => some ⟨.int .u64, 1, 8, [.int .u64 0], true⟩
  | 105 => some ⟨(.struct [(0, 1, false), (1, 1, false), (2, 1, false)]), 3, 40, [.slice none 0 0, .int .i64 0, .int .u64 0], false⟩
  | 120 => some ⟨(.struct [(0, 1, false), (1, 1, false), (2, 1, false), (3, 1, false), (4, 1, false)]), 5, 48, [.int .i64 0, .string ByteArray.empty, .int .i64 0, .int .i64 0, .int .i64 0], true⟩
  | 126 => some ⟨(.struct [(0, 1, false), (1, 1, false), (2, 1, false)]), 3, 48, [.string ByteArray.empty, .slice none 0 0, .bool false], false⟩
  | 137 => some ⟨(.slice 4), 1, 24, [.slice none 0 0], false⟩
  | 141 => some ⟨(.ptr 143), 1, 8, [.pointer none], false⟩
  | 143 => some ⟨(.struct [(0, 1, false), (1, 1, false), (2, 1, false), (3, 1, false)]), 4, 56, [.string ByteArray.empty, .int .i64 0, .bool false, .slice none 0 0], false⟩
  | 144 => some ⟨(.ptr 126), 1, 8, [.pointer none], false⟩
  | _ => none
theorem T3 : T 3 = some ⟨.int .i64, 1, 8, [.int .i64 0], true⟩ := rfl
theorem ok3 : TiOk Tryd.prog 3 ⟨.int .i64, 1, 8, [.int .i64 0], true⟩ := ⟨(by kernel_rfl : Tryd.prog.underlying 3 = _), (TiOk.of_info (z := (.int .i64 0)) (by kernel_rfl) rfl), rfl, by decide⟩
theorem T4 : T 4 = some ⟨.bool, 1, 1, [.bool false], true⟩ := rfl
theorem ok4 : TiOk Tryd.prog 4 ⟨.bool, 1, 1, [.bool false], true⟩ := ⟨(by kernel_rfl : Tryd.prog.underlying 4 = _), (TiOk.of_info (z := (.bool false)) (by kernel_rfl) rfl), rfl, by decide⟩
theorem T5 : T 5 = some ⟨.int .u8, 1, 1, [.int .u8 0], true⟩ := rfl
theorem ok5 : TiOk Tryd.prog 5 ⟨.int .u8, 1, 1, [.int .u8 0], true⟩ := ⟨(by kernel_rfl : Tryd.prog.underlying 5 = _), (TiOk.of_info (z := (.int .u8 0)) (by kernel_rfl) rfl), rfl, by decide⟩
theorem T9 : T 9 = some ⟨.str, 1, 16, [.string ByteArray.empty], true⟩ := rfl
theorem ok9 : TiOk Tryd.prog 9 ⟨.str, 1, 16, [.string ByteArray.empty], true⟩ := ⟨(by kernel_rfl : Tryd.prog.underlying 9 = _), (TiOk.of_info (z := (.string ByteArray.empty)) (by kernel_rfl) rfl), rfl, by decide⟩
theorem T22 : T 22 = some ⟨(.slice 9), 1, 24, [.slice none 0 0], false⟩ := rfl
theorem ok22 : TiOk Tryd.prog 22 ⟨(.slice 9), 1, 24, [.slice none 0 0], false⟩ := ⟨(by kernel_rfl : Tryd.prog.underlying 22 = _), (TiOk.of_info (z := (.slice none 0 0)) (by kernel_rfl) rfl), rfl, by decide⟩
theorem T28 : T 28 = some ⟨(.slice 3), 1, 24, [.slice none 0 0], false⟩ := rfl
theorem ok28 : TiOk Tryd.prog 28 ⟨(.slice 3), 1, 24, [.slice none 0 0], false⟩ := ⟨(by kernel_rfl : Tryd.prog.underlying 28 = _), (TiOk.of_info (z := (.slice none 0 0)) (by kernel_rfl) rfl), rfl, by decide⟩
theorem T41 : T 41 = some ⟨(.slice 97), 1, 24, [.slice none 0 0], false⟩ := rfl
theorem ok41 : TiOk Tryd.prog 41 ⟨(.slice 97), 1, 24, [.slice none 0 0], false⟩ := ⟨(by kernel_rfl : Tryd.prog.underlying 41 = _), (TiOk.of_info (z := (.slice none 0 0)) (by kernel_rfl) rfl), rfl, by decide⟩
theorem T45 : T 45 = some ⟨(.slice 5), 1, 24, [.slice none 0 0], false⟩ := rfl
theorem ok45 : TiOk Tryd.prog 45 ⟨(.slice 5), 1, 24, [.slice none 0 0], false⟩ := ⟨(by kernel_rfl : Tryd.prog.underlying 45 = _), (TiOk.of_info (z := (.slice none 0 0)) (by kernel_rfl) rfl), rfl, by decide⟩
theorem T89 : T 89 = some ⟨.ifc, 1, 16, [.nilIface], false⟩ := rfl
theorem ok89 : TiOk Tryd.prog 89 ⟨.ifc, 1, 16, [.nilIface], false⟩ := ⟨⟨_, Tryd.underlying89⟩, (TiOk.of_info (z := (.nilIface)) (by kernel_rfl) rfl), rfl, by decide⟩
theorem T97 : T 97 = some ⟨(.struct [(0, 1, false), (1, 1, false)]), 2, 16, [.int .i64 0, .int .i64 0], true⟩ := rfl
theorem ok97 : TiOk Tryd.prog 97 ⟨(.struct [(0, 1, false), (1, 1, false)]), 2, 16, [.int .i64 0, .int .i64 0], true⟩ := ⟨TiOk.of_struct Tryd.underlying97 (by kernel_rfl), (TiOk.of_info (z := (.agg #[.int .i64 0, .int .i64 0])) (by kernel_rfl) rfl), rfl, by decide⟩
theorem T102 : T 102 = some ⟨(.ptr 105), 1, 8, [.pointer none], false⟩ := rfl
theorem ok102 : TiOk Tryd.prog 102 ⟨(.ptr 105), 1, 8, [.pointer none], false⟩ := ⟨(by kernel_rfl : Tryd.prog.underlying 102 = _), (TiOk.of_info (z := (.pointer none)) (by kernel_rfl) rfl), rfl, by decide⟩
theorem T103 : T 103 = some ⟨.int .u64, 1, 8, [.int .u64 0], true⟩ := rfl
theorem ok103 : TiOk Tryd.prog 103 ⟨.int .u64, 1, 8, [.int .u64 0], true⟩ := ⟨(by kernel_rfl : Tryd.prog.underlying 103 = _), (TiOk.of_info (z := (.int .u64 0)) (by kernel_rfl) rfl), rfl, by decide⟩
theorem T105 : T 105 = some ⟨(.struct [(0, 1, false), (1, 1, false), (2, 1, false)]), 3, 40, [.slice none 0 0, .int .i64 0, .int .u64 0], false⟩ := rfl
theorem ok105 : TiOk Tryd.prog 105 ⟨(.struct [(0, 1, false), (1, 1, false), (2, 1, false)]), 3, 40, [.slice none 0 0, .int .i64 0, .int .u64 0], false⟩ := ⟨TiOk.of_struct Tryd.underlying105 (by kernel_rfl), (TiOk.of_info (z := (.agg #[.slice none 0 0, .int .i64 0, .int .u64 0])) (by kernel_rfl) rfl), rfl, by decide⟩
theorem T120 : T 120 = some ⟨(.struct [(0, 1, false), (1, 1, false), (2, 1, false), (3, 1, false), (4, 1, false)]), 5, 48, [.int .i64 0, .string ByteArray.empty, .int .i64 0, .int .i64 0, .int .i64 0], true⟩ := rfl
theorem ok120 : TiOk Tryd.prog 120 ⟨(.struct [(0, 1, false), (1, 1, false), (2, 1, false), (3, 1, false), (4, 1, false)]), 5, 48, [.int .i64 0, .string ByteArray.empty, .int .i64 0, .int .i64 0, .int .i64 0], true⟩ := ⟨TiOk.of_struct Tryd.underlying120 (by kernel_rfl), (TiOk.of_info (z := (.agg #[.int .i64 0, .string ByteArray.empty, .int .i64 0, .int .i64 0, .int .i64 0])) (by kernel_rfl) rfl), rfl, by decide⟩
theorem T126 : T 126 = some ⟨(.struct [(0, 1, false), (1, 1, false), (2, 1, false)]), 3, 48, [.string ByteArray.empty, .slice none 0 0, .bool false], false⟩ := rfl
theorem ok126 : TiOk Tryd.prog 126 ⟨(.struct [(0, 1, false), (1, 1, false), (2, 1, false)]), 3, 48, [.string ByteArray.empty, .slice none 0 0, .bool false], false⟩ := ⟨TiOk.of_struct Tryd.underlying126 (by kernel_rfl), (TiOk.of_info (z := (.agg #[.string ByteArray.empty, .slice none 0 0, .bool false])) (by kernel_rfl) rfl), rfl, by decide⟩
theorem T137 : T 137 = some ⟨(.slice 4), 1, 24, [.slice none 0 0], false⟩ := rfl
theorem ok137 : TiOk Tryd.prog 137 ⟨(.slice 4), 1, 24, [.slice none 0 0], false⟩ := ⟨(by kernel_rfl : Tryd.prog.underlying 137 = _), (TiOk.of_info (z := (.slice none 0 0)) (by kernel_rfl) rfl), rfl, by decide⟩
theorem T141 : T 141 = some ⟨(.ptr 143), 1, 8, [.pointer none], false⟩ := rfl
theorem ok141 : TiOk Tryd.prog 141 ⟨(.ptr 143), 1, 8, [.pointer none], false⟩ := ⟨(by kernel_rfl : Tryd.prog.underlying 141 = _), (TiOk.of_info (z := (.pointer none)) (by kernel_rfl) rfl), rfl, by decide⟩
theorem T143 : T 143 = some ⟨(.struct [(0, 1, false), (1, 1, false), (2, 1, false), (3, 1, false)]), 4, 56, [.string ByteArray.empty, .int .i64 0, .bool false, .slice none 0 0], false⟩ := rfl
theorem ok143 : TiOk Tryd.prog 143 ⟨(.struct [(0, 1, false), (1, 1, false), (2, 1, false), (3, 1, false)]), 4, 56, [.string ByteArray.empty, .int .i64 0, .bool false, .slice none 0 0], false⟩ := ⟨TiOk.of_struct Tryd.underlying143 (by kernel_rfl), (TiOk.of_info (z := (.agg #[.string ByteArray.empty, .int .i64 0, .bool false, .slice none 0 0])) (by kernel_rfl) rfl), rfl, by decide⟩
theorem T144 : T 144 = some ⟨(.ptr 126), 1, 8, [.pointer none], false⟩ := rfl
theorem ok144 : TiOk Tryd.prog 144 ⟨(.ptr 126), 1, 8, [.pointer none], false⟩ := ⟨(by kernel_rfl : Tryd.prog.underlying 144 = _), (TiOk.of_info (z := (.pointer none)) (by kernel_rfl) rfl), rfl, by decide⟩
theorem tabOk : TabOk Tryd.prog T := by
  intro t i h
  unfold T at h
  split at h
  · cases h; exact ok3
  · cases h; exact ok4
  · cases h; exact ok5
  · cases h; exact ok9
  · cases h; exact ok22
  · cases h; exact ok28
  · cases h; exact ok41
  · cases h; exact ok45
  · cases h; exact ok89
  · cases h; exact ok97
  · cases h; exact ok102
  · cases h; exact ok103
  · cases h; exact ok105
  · cases h; exact ok120
  · cases h; exact ok126
  · cases h; exact ok137
  · cases h; exact ok141
  · cases h; exact ok143
  · cases h; exact ok144
  · cases h
set_option maxHeartbeats 1000000
def WR (f : FuncId) : Bool := f == 63 || f == 94 || f == 95 || f == 96 || f == 97 || f == 104 || f == 113 || f == 114 || f == 123 || f == 126 || f == 154 || f == 163 || f == 164 || f == 165 || f == 183 || f == 184 || f == 185 || f == 186 || f == 187 || f == 188 || f == 205 || f == 206 || f == 207 || f == 1000045
def OW (f : FuncId) : Bool := f == 63
def K : FuncId → Nat → List Nat
  | 28, 0 => [0, 1, 5]
  | 56, 0 => [0, 4]
  | 63, 0 => [0, 1, 5]
  | 64, 0 => [0, 1, 5]
  | 77, 0 => [0, 1, 5, 6, 7]
  | 88, 0 => [0, 3, 4]
  | 91, 0 => [3, 9, 10, 11]
  | 92, 0 => [3, 4, 13, 14, 15]
  | 100, 0 => [0, 1, 5]
  | 101, 0 => [0, 4, 5, 6]
  | 107, 0 => [0, 3, 4]
  | 110, 0 => [0, 4]
  | 126, 0 => [0]
  | 159, 0 => [0, 3, 4]
  | 163, 0 => [0]
  | 188, 0 => [0, 3]
  | 207, 0 => [0, 3]
  | 92, 1029 => [5, 29800]
  | 164, 1010 => [6, 0]
  | 164, 1002 => [6, 0]
  | _, _ => []
@[simp] theorem K28_0 : K 28 0 = [0, 1, 5] := rfl
@[simp] theorem K56_0 : K 56 0 = [0, 4] := rfl
@[simp] theorem K63_0 : K 63 0 = [0, 1, 5] := rfl
@[simp] theorem K64_0 : K 64 0 = [0, 1, 5] := rfl
@[simp] theorem K77_0 : K 77 0 = [0, 1, 5, 6, 7] := rfl
@[simp] theorem K88_0 : K 88 0 = [0, 3, 4] := rfl
@[simp] theorem K91_0 : K 91 0 = [3, 9, 10, 11] := rfl
@[simp] theorem K92_0 : K 92 0 = [3, 4, 13, 14, 15] := rfl
@[simp] theorem K100_0 : K 100 0 = [0, 1, 5] := rfl
@[simp] theorem K101_0 : K 101 0 = [0, 4, 5, 6] := rfl
@[simp] theorem K107_0 : K 107 0 = [0, 3, 4] := rfl
@[simp] theorem K110_0 : K 110 0 = [0, 4] := rfl
@[simp] theorem K126_0 : K 126 0 = [0] := rfl
@[simp] theorem K159_0 : K 159 0 = [0, 3, 4] := rfl
@[simp] theorem K163_0 : K 163 0 = [0] := rfl
@[simp] theorem K188_0 : K 188 0 = [0, 3] := rfl
@[simp] theorem K207_0 : K 207 0 = [0, 3] := rfl
@[simp] theorem K8_1022 : K 8 1022 = [] := rfl
@[simp] theorem K28_1006 : K 28 1006 = [] := rfl
@[simp] theorem K52_1007 : K 52 1007 = [] := rfl
@[simp] theorem K89_1008 : K 89 1008 = [] := rfl
@[simp] theorem K92_1007 : K 92 1007 = [] := rfl
@[simp] theorem K92_1024 : K 92 1024 = [] := rfl
@[simp] theorem K92_1026 : K 92 1026 = [] := rfl
@[simp] theorem K92_1028 : K 92 1028 = [] := rfl
@[simp] theorem K92_1029 : K 92 1029 = [5, 29800] := rfl
@[simp] theorem K106_1005 : K 106 1005 = [] := rfl
@[simp] theorem K123_1007 : K 123 1007 = [] := rfl
@[simp] theorem K123_1009 : K 123 1009 = [] := rfl
@[simp] theorem K123_1010 : K 123 1010 = [] := rfl
@[simp] theorem K125_1005 : K 125 1005 = [] := rfl
@[simp] theorem K154_1002 : K 154 1002 = [] := rfl
@[simp] theorem K154_1003 : K 154 1003 = [] := rfl
@[simp] theorem K154_1006 : K 154 1006 = [] := rfl
@[simp] theorem K160_1003 : K 160 1003 = [] := rfl
@[simp] theorem K164_1010 : K 164 1010 = [6, 0] := rfl
@[simp] theorem K164_1016 : K 164 1016 = [] := rfl
@[simp] theorem K164_1002 : K 164 1002 = [6, 0] := rfl
@[simp] theorem K184_1001 : K 184 1001 = [] := rfl
@[simp] theorem K207_1002 : K 207 1002 = [] := rfl
@[simp] theorem K207_1004 : K 207 1004 = [] := rfl
@[simp] theorem WR7 : WR 7 = false := rfl
@[simp] theorem OW7 : OW 7 = false := rfl
@[simp] theorem WR8 : WR 8 = false := rfl
@[simp] theorem OW8 : OW 8 = false := rfl
@[simp] theorem WR9 : WR 9 = false := rfl
@[simp] theorem OW9 : OW 9 = false := rfl
@[simp] theorem WR10 : WR 10 = false := rfl
@[simp] theorem OW10 : OW 10 = false := rfl
@[simp] theorem WR11 : WR 11 = false := rfl
@[simp] theorem OW11 : OW 11 = false := rfl
@[simp] theorem WR28 : WR 28 = false := rfl
@[simp] theorem OW28 : OW 28 = false := rfl
@[simp] theorem WR29 : WR 29 = false := rfl
@[simp] theorem OW29 : OW 29 = false := rfl
@[simp] theorem WR37 : WR 37 = false := rfl
@[simp] theorem OW37 : OW 37 = false := rfl
@[simp] theorem WR38 : WR 38 = false := rfl
@[simp] theorem OW38 : OW 38 = false := rfl
@[simp] theorem WR39 : WR 39 = false := rfl
@[simp] theorem OW39 : OW 39 = false := rfl
@[simp] theorem WR40 : WR 40 = false := rfl
@[simp] theorem OW40 : OW 40 = false := rfl
@[simp] theorem WR41 : WR 41 = false := rfl
@[simp] theorem OW41 : OW 41 = false := rfl
@[simp] theorem WR42 : WR 42 = false := rfl
@[simp] theorem OW42 : OW 42 = false := rfl
@[simp] theorem WR43 : WR 43 = false := rfl
@[simp] theorem OW43 : OW 43 = false := rfl
@[simp] theorem WR44 : WR 44 = false := rfl
@[simp] theorem OW44 : OW 44 = false := rfl
@[simp] theorem WR45 : WR 45 = false := rfl
@[simp] theorem OW45 : OW 45 = false := rfl
@[simp] theorem WR46 : WR 46 = false := rfl
@[simp] theorem OW46 : OW 46 = false := rfl
@[simp] theorem WR47 : WR 47 = false := rfl
@[simp] theorem OW47 : OW 47 = false := rfl
@[simp] theorem WR48 : WR 48 = false := rfl
@[simp] theorem OW48 : OW 48 = false := rfl
@[simp] theorem WR49 : WR 49 = false := rfl
@[simp] theorem OW49 : OW 49 = false := rfl
@[simp] theorem WR50 : WR 50 = false := rfl
@[simp] theorem OW50 : OW 50 = false := rfl
@[simp] theorem WR51 : WR 51 = false := rfl
@[simp] theorem OW51 : OW 51 = false := rfl
@[simp] theorem WR52 : WR 52 = false := rfl
@[simp] theorem OW52 : OW 52 = false := rfl
@[simp] theorem WR53 : WR 53 = false := rfl
@[simp] theorem OW53 : OW 53 = false := rfl
@[simp] theorem WR54 : WR 54 = false := rfl
@[simp] theorem OW54 : OW 54 = false := rfl
@[simp] theorem WR55 : WR 55 = false := rfl
@[simp] theorem OW55 : OW 55 = false := rfl
@[simp] theorem WR56 : WR 56 = false := rfl
@[simp] theorem OW56 : OW 56 = false := rfl
@[simp] theorem WR57 : WR 57 = false := rfl
@[simp] theorem OW57 : OW 57 = false := rfl
@[simp] theorem WR58 : WR 58 = false := rfl
@[simp] theorem OW58 : OW 58 = false := rfl
@[simp] theorem WR59 : WR 59 = false := rfl
@[simp] theorem OW59 : OW 59 = false := rfl
@[simp] theorem WR60 : WR 60 = false := rfl
@[simp] theorem OW60 : OW 60 = false := rfl
@[simp] theorem WR61 : WR 61 = false := rfl
@[simp] theorem OW61 : OW 61 = false := rfl
@[simp] theorem WR62 : WR 62 = false := rfl
@[simp] theorem OW62 : OW 62 = false := rfl
@[simp] theorem WR63 : WR 63 = true := rfl
@[simp] theorem OW63 : OW 63 = true := rfl
@[simp] theorem WR64 : WR 64 = false := rfl
@[simp] theorem OW64 : OW 64 = false := rfl
@[simp] theorem WR77 : WR 77 = false := rfl
@[simp] theorem OW77 : OW 77 = false := rfl
@[simp] theorem WR88 : WR 88 = false := rfl
@[simp] theorem OW88 : OW 88 = false := rfl
@[simp] theorem WR89 : WR 89 = false := rfl
@[simp] theorem OW89 : OW 89 = false := rfl
@[simp] theorem WR91 : WR 91 = false := rfl
@[simp] theorem OW91 : OW 91 = false := rfl
@[simp] theorem WR92 : WR 92 = false := rfl
@[simp] theorem OW92 : OW 92 = false := rfl
@[simp] theorem WR93 : WR 93 = false := rfl
@[simp] theorem OW93 : OW 93 = false := rfl
@[simp] theorem WR94 : WR 94 = true := rfl
@[simp] theorem OW94 : OW 94 = false := rfl
@[simp] theorem WR95 : WR 95 = true := rfl
@[simp] theorem OW95 : OW 95 = false := rfl
@[simp] theorem WR96 : WR 96 = true := rfl
@[simp] theorem OW96 : OW 96 = false := rfl
@[simp] theorem WR97 : WR 97 = true := rfl
@[simp] theorem OW97 : OW 97 = false := rfl
@[simp] theorem WR98 : WR 98 = false := rfl
@[simp] theorem OW98 : OW 98 = false := rfl
@[simp] theorem WR100 : WR 100 = false := rfl
@[simp] theorem OW100 : OW 100 = false := rfl
@[simp] theorem WR101 : WR 101 = false := rfl
@[simp] theorem OW101 : OW 101 = false := rfl
@[simp] theorem WR103 : WR 103 = false := rfl
@[simp] theorem OW103 : OW 103 = false := rfl
@[simp] theorem WR104 : WR 104 = true := rfl
@[simp] theorem OW104 : OW 104 = false := rfl
@[simp] theorem WR105 : WR 105 = false := rfl
@[simp] theorem OW105 : OW 105 = false := rfl
@[simp] theorem WR106 : WR 106 = false := rfl
@[simp] theorem OW106 : OW 106 = false := rfl
@[simp] theorem WR107 : WR 107 = false := rfl
@[simp] theorem OW107 : OW 107 = false := rfl
@[simp] theorem WR108 : WR 108 = false := rfl
@[simp] theorem OW108 : OW 108 = false := rfl
@[simp] theorem WR109 : WR 109 = false := rfl
@[simp] theorem OW109 : OW 109 = false := rfl
@[simp] theorem WR110 : WR 110 = false := rfl
@[simp] theorem OW110 : OW 110 = false := rfl
@[simp] theorem WR111 : WR 111 = false := rfl
@[simp] theorem OW111 : OW 111 = false := rfl
@[simp] theorem WR112 : WR 112 = false := rfl
@[simp] theorem OW112 : OW 112 = false := rfl
@[simp] theorem WR113 : WR 113 = true := rfl
@[simp] theorem OW113 : OW 113 = false := rfl
@[simp] theorem WR114 : WR 114 = true := rfl
@[simp] theorem OW114 : OW 114 = false := rfl
@[simp] theorem WR115 : WR 115 = false := rfl
@[simp] theorem OW115 : OW 115 = false := rfl
@[simp] theorem WR116 : WR 116 = false := rfl
@[simp] theorem OW116 : OW 116 = false := rfl
@[simp] theorem WR117 : WR 117 = false := rfl
@[simp] theorem OW117 : OW 117 = false := rfl
@[simp] theorem WR118 : WR 118 = false := rfl
@[simp] theorem OW118 : OW 118 = false := rfl
@[simp] theorem WR119 : WR 119 = false := rfl
@[simp] theorem OW119 : OW 119 = false := rfl
@[simp] theorem WR120 : WR 120 = false := rfl
@[simp] theorem OW120 : OW 120 = false := rfl
@[simp] theorem WR121 : WR 121 = false := rfl
@[simp] theorem OW121 : OW 121 = false := rfl
@[simp] theorem WR122 : WR 122 = false := rfl
@[simp] theorem OW122 : OW 122 = false := rfl
@[simp] theorem WR123 : WR 123 = true := rfl
@[simp] theorem OW123 : OW 123 = false := rfl
@[simp] theorem WR124 : WR 124 = false := rfl
@[simp] theorem OW124 : OW 124 = false := rfl
@[simp] theorem WR125 : WR 125 = false := rfl
@[simp] theorem OW125 : OW 125 = false := rfl
@[simp] theorem WR126 : WR 126 = true := rfl
@[simp] theorem OW126 : OW 126 = false := rfl
@[simp] theorem WR148 : WR 148 = false := rfl
@[simp] theorem OW148 : OW 148 = false := rfl
@[simp] theorem WR149 : WR 149 = false := rfl
@[simp] theorem OW149 : OW 149 = false := rfl
@[simp] theorem WR150 : WR 150 = false := rfl
@[simp] theorem OW150 : OW 150 = false := rfl
@[simp] theorem WR151 : WR 151 = false := rfl
@[simp] theorem OW151 : OW 151 = false := rfl
@[simp] theorem WR152 : WR 152 = false := rfl
@[simp] theorem OW152 : OW 152 = false := rfl
@[simp] theorem WR153 : WR 153 = false := rfl
@[simp] theorem OW153 : OW 153 = false := rfl
@[simp] theorem WR154 : WR 154 = true := rfl
@[simp] theorem OW154 : OW 154 = false := rfl
@[simp] theorem WR159 : WR 159 = false := rfl
@[simp] theorem OW159 : OW 159 = false := rfl
@[simp] theorem WR160 : WR 160 = false := rfl
@[simp] theorem OW160 : OW 160 = false := rfl
@[simp] theorem WR161 : WR 161 = false := rfl
@[simp] theorem OW161 : OW 161 = false := rfl
@[simp] theorem WR162 : WR 162 = false := rfl
@[simp] theorem OW162 : OW 162 = false := rfl
@[simp] theorem WR163 : WR 163 = true := rfl
@[simp] theorem OW163 : OW 163 = false := rfl
@[simp] theorem WR164 : WR 164 = true := rfl
@[simp] theorem OW164 : OW 164 = false := rfl
@[simp] theorem WR165 : WR 165 = true := rfl
@[simp] theorem OW165 : OW 165 = false := rfl
@[simp] theorem WR183 : WR 183 = true := rfl
@[simp] theorem OW183 : OW 183 = false := rfl
@[simp] theorem WR184 : WR 184 = true := rfl
@[simp] theorem OW184 : OW 184 = false := rfl
@[simp] theorem WR185 : WR 185 = true := rfl
@[simp] theorem OW185 : OW 185 = false := rfl
@[simp] theorem WR186 : WR 186 = true := rfl
@[simp] theorem OW186 : OW 186 = false := rfl
@[simp] theorem WR187 : WR 187 = true := rfl
@[simp] theorem OW187 : OW 187 = false := rfl
@[simp] theorem WR188 : WR 188 = true := rfl
@[simp] theorem OW188 : OW 188 = false := rfl
@[simp] theorem WR189 : WR 189 = false := rfl
@[simp] theorem OW189 : OW 189 = false := rfl
@[simp] theorem WR205 : WR 205 = true := rfl
@[simp] theorem OW205 : OW 205 = false := rfl
@[simp] theorem WR206 : WR 206 = true := rfl
@[simp] theorem OW206 : OW 206 = false := rfl
@[simp] theorem WR207 : WR 207 = true := rfl
@[simp] theorem OW207 : OW 207 = false := rfl
@[simp] theorem WR208 : WR 208 = false := rfl
@[simp] theorem OW208 : OW 208 = false := rfl
@[simp] theorem WR85 : WR 85 = false := rfl
@[simp] theorem OW85 : OW 85 = false := rfl
@[simp] theorem WR102 : WR 102 = false := rfl
@[simp] theorem OW102 : OW 102 = false := rfl
@[simp] theorem WR155 : WR 155 = false := rfl
@[simp] theorem OW155 : OW 155 = false := rfl
@[simp] theorem WR176 : WR 176 = false := rfl
@[simp] theorem OW176 : OW 176 = false := rfl
@[simp] theorem WRt3 : WR 1000003 = false := rfl
@[simp] theorem WRt4 : WR 1000004 = false := rfl
@[simp] theorem WRt5 : WR 1000005 = false := rfl
@[simp] theorem WRt9 : WR 1000009 = false := rfl
@[simp] theorem WRt22 : WR 1000022 = false := rfl
@[simp] theorem WRt28 : WR 1000028 = false := rfl
@[simp] theorem WRt41 : WR 1000041 = false := rfl
@[simp] theorem WRt45 : WR 1000045 = true := rfl
@[simp] theorem WRt89 : WR 1000089 = false := rfl
@[simp] theorem WRt97 : WR 1000097 = false := rfl
@[simp] theorem WRt102 : WR 1000102 = false := rfl
@[simp] theorem WRt103 : WR 1000103 = false := rfl
@[simp] theorem WRt105 : WR 1000105 = false := rfl
@[simp] theorem WRt120 : WR 1000120 = false := rfl
@[simp] theorem WRt126 : WR 1000126 = false := rfl
@[simp] theorem WRt137 : WR 1000137 = false := rfl
@[simp] theorem WRt141 : WR 1000141 = false := rfl
@[simp] theorem WRt143 : WR 1000143 = false := rfl
@[simp] theorem WRt144 : WR 1000144 = false := rfl
noncomputable def F_0 : FuncId → Option Func
  | 7 => some Tryd.f7
  | 8 => some Tryd.f8
  | 9 => some Tryd.f9
  | 10 => some Tryd.f10
  | 11 => some Tryd.f11
  | 28 => some Tryd.f28
  | 29 => some Tryd.f29
  | 37 => some Tryd.f37
  | 38 => some Tryd.f38
  | 39 => some Tryd.f39
  | 40 => some Tryd.f40
  | 41 => some Tryd.f41
  | 42 => some Tryd.f42
  | 43 => some Tryd.f43
  | 44 => some Tryd.f44
  | 45 => some Tryd.f45
  | 46 => some Tryd.f46
  | 47 => some Tryd.f47
  | 48 => some Tryd.f48
  | 49 => some Tryd.f49
  | 50 => some Tryd.f50
  | 51 => some Tryd.f51
  | 52 => some Tryd.f52
  | 53 => some Tryd.f53
  | f => none
noncomputable def F_1 : FuncId → Option Func
  | 54 => some Tryd.f54
  | 55 => some Tryd.f55
  | 56 => some Tryd.f56
  | 57 => some Tryd.f57
  | 58 => some Tryd.f58
  | 59 => some Tryd.f59
  | 60 => some Tryd.f60
  | 61 => some Tryd.f61
  | 62 => some Tryd.f62
  | 63 => some Tryd.f63
  | 64 => some Tryd.f64
  | 77 => some Tryd.f77
  | 88 => some Tryd.f88
  | 89 => some Tryd.f89
  | 91 => some Tryd.f91
  | 92 => some Tryd.f92
  | 93 => some Tryd.f93
  | 94 => some Tryd.f94
  | 95 => some Tryd.f95
  | 96 => some Tryd.f96
  | 97 => some Tryd.f97
  | 98 => some Tryd.f98
  | 100 => some Tryd.f100
  | 101 => some Tryd.f101
  | f => F_0 f
noncomputable def F_2 : FuncId → Option Func
  | 103 => some Tryd.f103
  | 104 => some Tryd.f104
  | 105 => some Tryd.f105
  | 106 => some Tryd.f106
  | 107 => some Tryd.f107
  | 108 => some Tryd.f108
  | 109 => some Tryd.f109
  | 110 => some Tryd.f110
  | 111 => some Tryd.f111
  | 112 => some Tryd.f112
  | 113 => some Tryd.f113
  | 114 => some Tryd.f114
  | 115 => some Tryd.f115
  | 116 => some Tryd.f116
  | 117 => some Tryd.f117
  | 118 => some Tryd.f118
  | 119 => some Tryd.f119
  | 120 => some Tryd.f120
  | 121 => some Tryd.f121
  | 122 => some Tryd.f122
  | 123 => some Tryd.f123
  | 124 => some Tryd.f124
  | 125 => some Tryd.f125
  | 126 => some Tryd.f126
  | f => F_1 f
noncomputable def F_3 : FuncId → Option Func
  | 148 => some Tryd.f148
  | 149 => some Tryd.f149
  | 150 => some Tryd.f150
  | 151 => some Tryd.f151
  | 152 => some Tryd.f152
  | 153 => some Tryd.f153
  | 154 => some Tryd.f154
  | 159 => some Tryd.f159
  | 160 => some Tryd.f160
  | 161 => some Tryd.f161
  | 162 => some Tryd.f162
  | 163 => some Tryd.f163
  | 164 => some Tryd.f164
  | 165 => some Tryd.f165
  | 183 => some Tryd.f183
  | 184 => some Tryd.f184
  | 185 => some Tryd.f185
  | 186 => some Tryd.f186
  | 187 => some Tryd.f187
  | 188 => some Tryd.f188
  | 189 => some Tryd.f189
  | 205 => some Tryd.f205
  | 206 => some Tryd.f206
  | 207 => some Tryd.f207
  | f => F_2 f
noncomputable def F_4 : FuncId → Option Func
  | 208 => some Tryd.f208
  | f => F_3 f
noncomputable def F : FuncId → Option Func := F_4
theorem F7 : F 7 = some Tryd.f7 := rfl
theorem chk7 : ∀ c, Tryd.f7.body = some c → chk WR (K 7) Tryd.f7.ntmps c = true := by intro c h; cases h; decide +kernel
theorem F8 : F 8 = some Tryd.f8 := rfl
theorem chk8 : ∀ c, Tryd.f8.body = some c → chk WR (K 8) Tryd.f8.ntmps c = true := by intro c h; cases h; decide +kernel
theorem F9 : F 9 = some Tryd.f9 := rfl
theorem chk9 : ∀ c, Tryd.f9.body = some c → chk WR (K 9) Tryd.f9.ntmps c = true := by intro c h; cases h; decide +kernel
theorem F10 : F 10 = some Tryd.f10 := rfl
theorem chk10 : ∀ c, Tryd.f10.body = some c → chk WR (K 10) Tryd.f10.ntmps c = true := by intro c h; cases h; decide +kernel
theorem F11 : F 11 = some Tryd.f11 := rfl
theorem chk11 : ∀ c, Tryd.f11.body = some c → chk WR (K 11) Tryd.f11.ntmps c = true := by intro c h; cases h; decide +kernel
theorem F28 : F 28 = some Tryd.f28 := rfl
theorem chk28 : ∀ c, Tryd.f28.body = some c → chk WR (K 28) Tryd.f28.ntmps c = true := by intro c h; cases h; decide +kernel
theorem F29 : F 29 = some Tryd.f29 := rfl
theorem chk29 : ∀ c, Tryd.f29.body = some c → chk WR (K 29) Tryd.f29.ntmps c = true := by intro c h; cases h; decide +kernel
theorem F37 : F 37 = some Tryd.f37 := rfl
theorem chk37 : ∀ c, Tryd.f37.body = some c → chk WR (K 37) Tryd.f37.ntmps c = true := by intro c h; cases h; decide +kernel
theorem F38 : F 38 = some Tryd.f38 := rfl
theorem chk38 : ∀ c, Tryd.f38.body = some c → chk WR (K 38) Tryd.f38.ntmps c = true := by intro c h; cases h; decide +kernel
theorem F39 : F 39 = some Tryd.f39 := rfl
theorem chk39 : ∀ c, Tryd.f39.body = some c → chk WR (K 39) Tryd.f39.ntmps c = true := by intro c h; cases h; decide +kernel
theorem F40 : F 40 = some Tryd.f40 := rfl
theorem chk40 : ∀ c, Tryd.f40.body = some c → chk WR (K 40) Tryd.f40.ntmps c = true := by intro c h; cases h; decide +kernel
theorem F41 : F 41 = some Tryd.f41 := rfl
theorem chk41 : ∀ c, Tryd.f41.body = some c → chk WR (K 41) Tryd.f41.ntmps c = true := by intro c h; cases h; decide +kernel
theorem F42 : F 42 = some Tryd.f42 := rfl
theorem chk42 : ∀ c, Tryd.f42.body = some c → chk WR (K 42) Tryd.f42.ntmps c = true := by intro c h; cases h; decide +kernel
theorem F43 : F 43 = some Tryd.f43 := rfl
theorem chk43 : ∀ c, Tryd.f43.body = some c → chk WR (K 43) Tryd.f43.ntmps c = true := by intro c h; cases h; decide +kernel
theorem F44 : F 44 = some Tryd.f44 := rfl
theorem chk44 : ∀ c, Tryd.f44.body = some c → chk WR (K 44) Tryd.f44.ntmps c = true := by intro c h; cases h; decide +kernel
theorem F45 : F 45 = some Tryd.f45 := rfl
theorem chk45 : ∀ c, Tryd.f45.body = some c → chk WR (K 45) Tryd.f45.ntmps c = true := by intro c h; cases h; decide +kernel
theorem F46 : F 46 = some Tryd.f46 := rfl
theorem chk46 : ∀ c, Tryd.f46.body = some c → chk WR (K 46) Tryd.f46.ntmps c = true := by intro c h; cases h; decide +kernel
theorem F47 : F 47 = some Tryd.f47 := rfl
theorem chk47 : ∀ c, Tryd.f47.body = some c → chk WR (K 47) Tryd.f47.ntmps c = true := by intro c h; cases h; decide +kernel
theorem F48 : F 48 = some Tryd.f48 := rfl
theorem chk48 : ∀ c, Tryd.f48.body = some c → chk WR (K 48) Tryd.f48.ntmps c = true := by intro c h; cases h; decide +kernel
theorem F49 : F 49 = some Tryd.f49 := rfl
theorem chk49 : ∀ c, Tryd.f49.body = some c → chk WR (K 49) Tryd.f49.ntmps c = true := by intro c h; cases h; decide +kernel
theorem F50 : F 50 = some Tryd.f50 := rfl
theorem chk50 : ∀ c, Tryd.f50.body = some c → chk WR (K 50) Tryd.f50.ntmps c = true := by intro c h; cases h; decide +kernel
theorem F51 : F 51 = some Tryd.f51 := rfl
theorem chk51 : ∀ c, Tryd.f51.body = some c → chk WR (K 51) Tryd.f51.ntmps c = true := by intro c h; cases h; decide +kernel
theorem F52 : F 52 = some Tryd.f52 := rfl
theorem chk52 : ∀ c, Tryd.f52.body = some c → chk WR (K 52) Tryd.f52.ntmps c = true := by intro c h; cases h; decide +kernel
theorem F53 : F 53 = some Tryd.f53 := rfl
theorem chk53 : ∀ c, Tryd.f53.body = some c → chk WR (K 53) Tryd.f53.ntmps c = true := by intro c h; cases h; decide +kernel
theorem F54 : F 54 = some Tryd.f54 := rfl
theorem chk54 : ∀ c, Tryd.f54.body = some c → chk WR (K 54) Tryd.f54.ntmps c = true := by intro c h; cases h; decide +kernel
theorem F55 : F 55 = some Tryd.f55 := rfl
theorem chk55 : ∀ c, Tryd.f55.body = some c → chk WR (K 55) Tryd.f55.ntmps c = true := by intro c h; cases h; decide +kernel
theorem F56 : F 56 = some Tryd.f56 := rfl
theorem chk56 : ∀ c, Tryd.f56.body = some c → chk WR (K 56) Tryd.f56.ntmps c = true := by intro c h; cases h; decide +kernel
theorem F57 : F 57 = some Tryd.f57 := rfl
theorem chk57 : ∀ c, Tryd.f57.body = some c → chk WR (K 57) Tryd.f57.ntmps c = true := by intro c h; cases h; decide +kernel
theorem F58 : F 58 = some Tryd.f58 := rfl
theorem chk58 : ∀ c, Tryd.f58.body = some c → chk WR (K 58) Tryd.f58.ntmps c = true := by intro c h; cases h; decide +kernel
theorem F59 : F 59 = some Tryd.f59 := rfl
theorem chk59 : ∀ c, Tryd.f59.body = some c → chk WR (K 59) Tryd.f59.ntmps c = true := by intro c h; cases h; decide +kernel
theorem F60 : F 60 = some Tryd.f60 := rfl
theorem chk60 : ∀ c, Tryd.f60.body = some c → chk WR (K 60) Tryd.f60.ntmps c = true := by intro c h; cases h; decide +kernel
theorem F61 : F 61 = some Tryd.f61 := rfl
theorem chk61 : ∀ c, Tryd.f61.body = some c → chk WR (K 61) Tryd.f61.ntmps c = true := by intro c h; cases h; decide +kernel
theorem F62 : F 62 = some Tryd.f62 := rfl
theorem chk62 : ∀ c, Tryd.f62.body = some c → chk WR (K 62) Tryd.f62.ntmps c = true := by intro c h; cases h; decide +kernel
theorem F63 : F 63 = some Tryd.f63 := rfl
theorem chk63 : ∀ c, Tryd.f63.body = some c → chk WR (K 63) Tryd.f63.ntmps c = true := by intro c h; cases h; decide +kernel
theorem F64 : F 64 = some Tryd.f64 := rfl
theorem chk64 : ∀ c, Tryd.f64.body = some c → chk WR (K 64) Tryd.f64.ntmps c = true := by intro c h; cases h; decide +kernel
theorem F77 : F 77 = some Tryd.f77 := rfl
theorem chk77 : ∀ c, Tryd.f77.body = some c → chk WR (K 77) Tryd.f77.ntmps c = true := by intro c h; cases h; decide +kernel
theorem F88 : F 88 = some Tryd.f88 := rfl
theorem chk88 : ∀ c, Tryd.f88.body = some c → chk WR (K 88) Tryd.f88.ntmps c = true := by intro c h; cases h; decide +kernel
theorem F89 : F 89 = some Tryd.f89 := rfl
theorem chk89 : ∀ c, Tryd.f89.body = some c → chk WR (K 89) Tryd.f89.ntmps c = true := by intro c h; cases h; decide +kernel
theorem F91 : F 91 = some Tryd.f91 := rfl
theorem chk91 : ∀ c, Tryd.f91.body = some c → chk WR (K 91) Tryd.f91.ntmps c = true := by intro c h; cases h; decide +kernel
theorem F92 : F 92 = some Tryd.f92 := rfl
theorem chk92 : ∀ c, Tryd.f92.body = some c → chk WR (K 92) Tryd.f92.ntmps c = true := by intro c h; cases h; decide +kernel
theorem F93 : F 93 = some Tryd.f93 := rfl
theorem chk93 : ∀ c, Tryd.f93.body = some c → chk WR (K 93) Tryd.f93.ntmps c = true := by intro c h; cases h; decide +kernel
theorem F94 : F 94 = some Tryd.f94 := rfl
theorem chk94 : ∀ c, Tryd.f94.body = some c → chk WR (K 94) Tryd.f94.ntmps c = true := by intro c h; cases h; decide +kernel
theorem F95 : F 95 = some Tryd.f95 := rfl
theorem chk95 : ∀ c, Tryd.f95.body = some c → chk WR (K 95) Tryd.f95.ntmps c = true := by intro c h; cases h; decide +kernel
theorem F96 : F 96 = some Tryd.f96 := rfl
theorem chk96 : ∀ c, Tryd.f96.body = some c → chk WR (K 96) Tryd.f96.ntmps c = true := by intro c h; cases h; decide +kernel
theorem F97 : F 97 = some Tryd.f97 := rfl
theorem chk97 : ∀ c, Tryd.f97.body = some c → chk WR (K 97) Tryd.f97.ntmps c = true := by intro c h; cases h; decide +kernel
theorem F98 : F 98 = some Tryd.f98 := rfl
theorem chk98 : ∀ c, Tryd.f98.body = some c → chk WR (K 98) Tryd.f98.ntmps c = true := by intro c h; cases h; decide +kernel
theorem F100 : F 100 = some Tryd.f100 := rfl
theorem chk100 : ∀ c, Tryd.f100.body = some c → chk WR (K 100) Tryd.f100.ntmps c = true := by intro c h; cases h; decide +kernel
theorem F101 : F 101 = some Tryd.f101 := rfl
theorem chk101 : ∀ c, Tryd.f101.body = some c → chk WR (K 101) Tryd.f101.ntmps c = true := by intro c h; cases h; decide +kernel
theorem F103 : F 103 = some Tryd.f103 := rfl
theorem chk103 : ∀ c, Tryd.f103.body = some c → chk WR (K 103) Tryd.f103.ntmps c = true := by intro c h; cases h; decide +kernel
theorem F104 : F 104 = some Tryd.f104 := rfl
theorem chk104 : ∀ c, Tryd.f104.body = some c → chk WR (K 104) Tryd.f104.ntmps c = true := by intro c h; cases h; decide +kernel
theorem F105 : F 105 = some Tryd.f105 := rfl
theorem chk105 : ∀ c, Tryd.f105.body = some c → chk WR (K 105) Tryd.f105.ntmps c = true := by intro c h; cases h; decide +kernel
theorem F106 : F 106 = some Tryd.f106 := rfl
theorem chk106 : ∀ c, Tryd.f106.body = some c → chk WR (K 106) Tryd.f106.ntmps c = true := by intro c h; cases h; decide +kernel
theorem F107 : F 107 = some Tryd.f107 := rfl
theorem chk107 : ∀ c, Tryd.f107.body = some c → chk WR (K 107) Tryd.f107.ntmps c = true := by intro c h; cases h; decide +kernel
theorem F108 : F 108 = some Tryd.f108 := rfl
theorem chk108 : ∀ c, Tryd.f108.body = some c → chk WR (K 108) Tryd.f108.ntmps c = true := by intro c h; cases h; decide +kernel
theorem F109 : F 109 = some Tryd.f109 := rfl
theorem chk109 : ∀ c, Tryd.f109.body = some c → chk WR (K 109) Tryd.f109.ntmps c = true := by intro c h; cases h; decide +kernel
theorem F110 : F 110 = some Tryd.f110 := rfl
theorem chk110 : ∀ c, Tryd.f110.body = some c → chk WR (K 110) Tryd.f110.ntmps c = true := by intro c h; cases h; decide +kernel
theorem F111 : F 111 = some Tryd.f111 := rfl
theorem chk111 : ∀ c, Tryd.f111.body = some c → chk WR (K 111) Tryd.f111.ntmps c = true := by intro c h; cases h; decide +kernel
theorem F112 : F 112 = some Tryd.f112 := rfl
theorem chk112 : ∀ c, Tryd.f112.body = some c → chk WR (K 112) Tryd.f112.ntmps c = true := by intro c h; cases h; decide +kernel
theorem F113 : F 113 = some Tryd.f113 := rfl
theorem chk113 : ∀ c, Tryd.f113.body = some c → chk WR (K 113) Tryd.f113.ntmps c = true := by intro c h; cases h; decide +kernel
theorem F114 : F 114 = some Tryd.f114 := rfl
theorem chk114 : ∀ c, Tryd.f114.body = some c → chk WR (K 114) Tryd.f114.ntmps c = true := by intro c h; cases h; decide +kernel
theorem F115 : F 115 = some Tryd.f115 := rfl
theorem chk115 : ∀ c, Tryd.f115.body = some c → chk WR (K 115) Tryd.f115.ntmps c = true := by intro c h; cases h; decide +kernel
theorem F116 : F 116 = some Tryd.f116 := rfl
theorem chk116 : ∀ c, Tryd.f116.body = some c → chk WR (K 116) Tryd.f116.ntmps c = true := by intro c h; cases h; decide +kernel
theorem F117 : F 117 = some Tryd.f117 := rfl
theorem chk117 : ∀ c, Tryd.f117.body = some c → chk WR (K 117) Tryd.f117.ntmps c = true := by intro c h; cases h; decide +kernel
theorem F118 : F 118 = some Tryd.f118 := rfl
theorem chk118 : ∀ c, Tryd.f118.body = some c → chk WR (K 118) Tryd.f118.ntmps c = true := by intro c h; cases h; decide +kernel
theorem F119 : F 119 = some Tryd.f119 := rfl
theorem chk119 : ∀ c, Tryd.f119.body = some c → chk WR (K 119) Tryd.f119.ntmps c = true := by intro c h; cases h; decide +kernel
theorem F120 : F 120 = some Tryd.f120 := rfl
theorem chk120 : ∀ c, Tryd.f120.body = some c → chk WR (K 120) Tryd.f120.ntmps c = true := by intro c h; cases h; decide +kernel
theorem F121 : F 121 = some Tryd.f121 := rfl
theorem chk121 : ∀ c, Tryd.f121.body = some c → chk WR (K 121) Tryd.f121.ntmps c = true := by intro c h; cases h; decide +kernel
theorem F122 : F 122 = some Tryd.f122 := rfl
theorem chk122 : ∀ c, Tryd.f122.body = some c → chk WR (K 122) Tryd.f122.ntmps c = true := by intro c h; cases h; decide +kernel
theorem F123 : F 123 = some Tryd.f123 := rfl
theorem chk123 : ∀ c, Tryd.f123.body = some c → chk WR (K 123) Tryd.f123.ntmps c = true := by intro c h; cases h; decide +kernel
theorem F124 : F 124 = some Tryd.f124 := rfl
theorem chk124 : ∀ c, Tryd.f124.body = some c → chk WR (K 124) Tryd.f124.ntmps c = true := by intro c h; cases h; decide +kernel
theorem F125 : F 125 = some Tryd.f125 := rfl
theorem chk125 : ∀ c, Tryd.f125.body = some c → chk WR (K 125) Tryd.f125.ntmps c = true := by intro c h; cases h; decide +kernel
theorem F126 : F 126 = some Tryd.f126 := rfl
theorem chk126 : ∀ c, Tryd.f126.body = some c → chk WR (K 126) Tryd.f126.ntmps c = true := by intro c h; cases h; decide +kernel
theorem F148 : F 148 = some Tryd.f148 := rfl
theorem chk148 : ∀ c, Tryd.f148.body = some c → chk WR (K 148) Tryd.f148.ntmps c = true := by intro c h; cases h; decide +kernel
theorem F149 : F 149 = some Tryd.f149 := rfl
theorem chk149 : ∀ c, Tryd.f149.body = some c → chk WR (K 149) Tryd.f149.ntmps c = true := by intro c h; cases h; decide +kernel
theorem F150 : F 150 = some Tryd.f150 := rfl
theorem chk150 : ∀ c, Tryd.f150.body = some c → chk WR (K 150) Tryd.f150.ntmps c = true := by intro c h; cases h; decide +kernel
theorem F151 : F 151 = some Tryd.f151 := rfl
theorem chk151 : ∀ c, Tryd.f151.body = some c → chk WR (K 151) Tryd.f151.ntmps c = true := by intro c h; cases h; decide +kernel
theorem F152 : F 152 = some Tryd.f152 := rfl
theorem chk152 : ∀ c, Tryd.f152.body = some c → chk WR (K 152) Tryd.f152.ntmps c = true := by intro c h; cases h; decide +kernel
theorem F153 : F 153 = some Tryd.f153 := rfl
theorem chk153 : ∀ c, Tryd.f153.body = some c → chk WR (K 153) Tryd.f153.ntmps c = true := by intro c h; cases h; decide +kernel
theorem F154 : F 154 = some Tryd.f154 := rfl
theorem chk154 : ∀ c, Tryd.f154.body = some c → chk WR (K 154) Tryd.f154.ntmps c = true := by intro c h; cases h; decide +kernel
theorem F159 : F 159 = some Tryd.f159 := rfl
theorem chk159 : ∀ c, Tryd.f159.body = some c → chk WR (K 159) Tryd.f159.ntmps c = true := by intro c h; cases h; decide +kernel
theorem F160 : F 160 = some Tryd.f160 := rfl
theorem chk160 : ∀ c, Tryd.f160.body = some c → chk WR (K 160) Tryd.f160.ntmps c = true := by intro c h; cases h; decide +kernel
theorem F161 : F 161 = some Tryd.f161 := rfl
theorem chk161 : ∀ c, Tryd.f161.body = some c → chk WR (K 161) Tryd.f161.ntmps c = true := by intro c h; cases h; decide +kernel
theorem F162 : F 162 = some Tryd.f162 := rfl
theorem chk162 : ∀ c, Tryd.f162.body = some c → chk WR (K 162) Tryd.f162.ntmps c = true := by intro c h; cases h; decide +kernel
theorem F163 : F 163 = some Tryd.f163 := rfl
theorem chk163 : ∀ c, Tryd.f163.body = some c → chk WR (K 163) Tryd.f163.ntmps c = true := by intro c h; cases h; decide +kernel
theorem F164 : F 164 = some Tryd.f164 := rfl
theorem chk164 : ∀ c, Tryd.f164.body = some c → chk WR (K 164) Tryd.f164.ntmps c = true := by intro c h; cases h; decide +kernel
theorem F165 : F 165 = some Tryd.f165 := rfl
theorem chk165 : ∀ c, Tryd.f165.body = some c → chk WR (K 165) Tryd.f165.ntmps c = true := by intro c h; cases h; decide +kernel
theorem F183 : F 183 = some Tryd.f183 := rfl
theorem chk183 : ∀ c, Tryd.f183.body = some c → chk WR (K 183) Tryd.f183.ntmps c = true := by intro c h; cases h; decide +kernel
theorem F184 : F 184 = some Tryd.f184 := rfl
theorem chk184 : ∀ c, Tryd.f184.body = some c → chk WR (K 184) Tryd.f184.ntmps c = true := by intro c h; cases h; decide +kernel
theorem F185 : F 185 = some Tryd.f185 := rfl
theorem chk185 : ∀ c, Tryd.f185.body = some c → chk WR (K 185) Tryd.f185.ntmps c = true := by intro c h; cases h; decide +kernel
theorem F186 : F 186 = some Tryd.f186 := rfl
theorem chk186 : ∀ c, Tryd.f186.body = some c → chk WR (K 186) Tryd.f186.ntmps c = true := by intro c h; cases h; decide +kernel
theorem F187 : F 187 = some Tryd.f187 := rfl
theorem chk187 : ∀ c, Tryd.f187.body = some c → chk WR (K 187) Tryd.f187.ntmps c = true := by intro c h; cases h; decide +kernel
theorem F188 : F 188 = some Tryd.f188 := rfl
theorem chk188 : ∀ c, Tryd.f188.body = some c → chk WR (K 188) Tryd.f188.ntmps c = true := by intro c h; cases h; decide +kernel
theorem F189 : F 189 = some Tryd.f189 := rfl
theorem chk189 : ∀ c, Tryd.f189.body = some c → chk WR (K 189) Tryd.f189.ntmps c = true := by intro c h; cases h; decide +kernel
theorem F205 : F 205 = some Tryd.f205 := rfl
theorem chk205 : ∀ c, Tryd.f205.body = some c → chk WR (K 205) Tryd.f205.ntmps c = true := by intro c h; cases h; decide +kernel
theorem F206 : F 206 = some Tryd.f206 := rfl
theorem chk206 : ∀ c, Tryd.f206.body = some c → chk WR (K 206) Tryd.f206.ntmps c = true := by intro c h; cases h; decide +kernel
theorem F207 : F 207 = some Tryd.f207 := rfl
theorem chk207 : ∀ c, Tryd.f207.body = some c → chk WR (K 207) Tryd.f207.ntmps c = true := by intro c h; cases h; decide +kernel
theorem F208 : F 208 = some Tryd.f208 := rfl
theorem chk208 : ∀ c, Tryd.f208.body = some c → chk WR (K 208) Tryd.f208.ntmps c = true := by intro c h; cases h; decide +kernel
theorem ent {f : FuncId} {fn : Func} (h : Tryd.prog.funcs[f]? = some fn) (hb : fn.body.isSome = true) (hn : (fn.name == "runtime.NumGoroutine") = false) : Enters Tryd.prog f := enters_mk h hb hn
theorem okF_0 : ∀ f fn, F_0 f = some fn → Tryd.prog.funcs[f]? = some fn ∧ Enters Tryd.prog f ∧ ∀ c, fn.body = some c → chk WR (K f) fn.ntmps c = true := by
  intro f fn h
  unfold F_0 at h
  split at h
  · cases h; exact ⟨Tryd.func7, ent Tryd.func7 rfl rfl, chk7⟩
  · cases h; exact ⟨Tryd.func8, ent Tryd.func8 rfl rfl, chk8⟩
  · cases h; exact ⟨Tryd.func9, ent Tryd.func9 rfl rfl, chk9⟩
  · cases h; exact ⟨Tryd.func10, ent Tryd.func10 rfl rfl, chk10⟩
  · cases h; exact ⟨Tryd.func11, ent Tryd.func11 rfl rfl, chk11⟩
  · cases h; exact ⟨Tryd.func28, ent Tryd.func28 rfl rfl, chk28⟩
  · cases h; exact ⟨Tryd.func29, ent Tryd.func29 rfl rfl, chk29⟩
  · cases h; exact ⟨Tryd.func37, ent Tryd.func37 rfl rfl, chk37⟩
  · cases h; exact ⟨Tryd.func38, ent Tryd.func38 rfl rfl, chk38⟩
  · cases h; exact ⟨Tryd.func39, ent Tryd.func39 rfl rfl, chk39⟩
  · cases h; exact ⟨Tryd.func40, ent Tryd.func40 rfl rfl, chk40⟩
  · cases h; exact ⟨Tryd.func41, ent Tryd.func41 rfl rfl, chk41⟩
  · cases h; exact ⟨Tryd.func42, ent Tryd.func42 rfl rfl, chk42⟩
  · cases h; exact ⟨Tryd.func43, ent Tryd.func43 rfl rfl, chk43⟩
  · cases h; exact ⟨Tryd.func44, ent Tryd.func44 rfl rfl, chk44⟩
  · cases h; exact ⟨Tryd.func45, ent Tryd.func45 rfl rfl, chk45⟩
  · cases h; exact ⟨Tryd.func46, ent Tryd.func46 rfl rfl, chk46⟩
  · cases h; exact ⟨Tryd.func47, ent Tryd.func47 rfl rfl, chk47⟩
  · cases h; exact ⟨Tryd.func48, ent Tryd.func48 rfl rfl, chk48⟩
  · cases h; exact ⟨Tryd.func49, ent Tryd.func49 rfl rfl, chk49⟩
  · cases h; exact ⟨Tryd.func50, ent Tryd.func50 rfl rfl, chk50⟩
  · cases h; exact ⟨Tryd.func51, ent Tryd.func51 rfl rfl, chk51⟩
  · cases h; exact ⟨Tryd.func52, ent Tryd.func52 rfl rfl, chk52⟩
  · cases h; exact ⟨Tryd.func53, ent Tryd.func53 rfl rfl, chk53⟩
  · cases h
theorem okF_1 : ∀ f fn, F_1 f = some fn → Tryd.prog.funcs[f]? = some fn ∧ Enters Tryd.prog f ∧ ∀ c, fn.body = some c → chk WR (K f) fn.ntmps c = true := by
  intro f fn h
  unfold F_1 at h
  split at h
  · cases h; exact ⟨Tryd.func54, ent Tryd.func54 rfl rfl, chk54⟩
  · cases h; exact ⟨Tryd.func55, ent Tryd.func55 rfl rfl, chk55⟩
  · cases h; exact ⟨Tryd.func56, ent Tryd.func56 rfl rfl, chk56⟩
  · cases h; exact ⟨Tryd.func57, ent Tryd.func57 rfl rfl, chk57⟩
  · cases h; exact ⟨Tryd.func58, ent Tryd.func58 rfl rfl, chk58⟩
  · cases h; exact ⟨Tryd.func59, ent Tryd.func59 rfl rfl, chk59⟩
  · cases h; exact ⟨Tryd.func60, ent Tryd.func60 rfl rfl, chk60⟩
  · cases h; exact ⟨Tryd.func61, ent Tryd.func61 rfl rfl, chk61⟩
  · cases h; exact ⟨Tryd.func62, ent Tryd.func62 rfl rfl, chk62⟩
  · cases h; exact ⟨Tryd.func63, ent Tryd.func63 rfl rfl, chk63⟩
  · cases h; exact ⟨Tryd.func64, ent Tryd.func64 rfl rfl, chk64⟩
  · cases h; exact ⟨Tryd.func77, ent Tryd.func77 rfl rfl, chk77⟩
  · cases h; exact ⟨Tryd.func88, ent Tryd.func88 rfl rfl, chk88⟩
  · cases h; exact ⟨Tryd.func89, ent Tryd.func89 rfl rfl, chk89⟩
  · cases h; exact ⟨Tryd.func91, ent Tryd.func91 rfl rfl, chk91⟩
  · cases h; exact ⟨Tryd.func92, ent Tryd.func92 rfl rfl, chk92⟩
  · cases h; exact ⟨Tryd.func93, ent Tryd.func93 rfl rfl, chk93⟩
  · cases h; exact ⟨Tryd.func94, ent Tryd.func94 rfl rfl, chk94⟩
  · cases h; exact ⟨Tryd.func95, ent Tryd.func95 rfl rfl, chk95⟩
  · cases h; exact ⟨Tryd.func96, ent Tryd.func96 rfl rfl, chk96⟩
  · cases h; exact ⟨Tryd.func97, ent Tryd.func97 rfl rfl, chk97⟩
  · cases h; exact ⟨Tryd.func98, ent Tryd.func98 rfl rfl, chk98⟩
  · cases h; exact ⟨Tryd.func100, ent Tryd.func100 rfl rfl, chk100⟩
  · cases h; exact ⟨Tryd.func101, ent Tryd.func101 rfl rfl, chk101⟩
  · exact okF_0 _ _ h
theorem okF_2 : ∀ f fn, F_2 f = some fn → Tryd.prog.funcs[f]? = some fn ∧ Enters Tryd.prog f ∧ ∀ c, fn.body = some c → chk WR (K f) fn.ntmps c = true := by
  intro f fn h
  unfold F_2 at h
  split at h
  · cases h; exact ⟨Tryd.func103, ent Tryd.func103 rfl rfl, chk103⟩
  · cases h; exact ⟨Tryd.func104, ent Tryd.func104 rfl rfl, chk104⟩
  · cases h; exact ⟨Tryd.func105, ent Tryd.func105 rfl rfl, chk105⟩
  · cases h; exact ⟨Tryd.func106, ent Tryd.func106 rfl rfl, chk106⟩
  · cases h; exact ⟨Tryd.func107, ent Tryd.func107 rfl rfl, chk107⟩
  · cases h; exact ⟨Tryd.func108, ent Tryd.func108 rfl rfl, chk108⟩
  · cases h; exact ⟨Tryd.func109, ent Tryd.func109 rfl rfl, chk109⟩
  · cases h; exact ⟨Tryd.func110, ent Tryd.func110 rfl rfl, chk110⟩
  · cases h; exact ⟨Tryd.func111, ent Tryd.func111 rfl rfl, chk111⟩
  · cases h; exact ⟨Tryd.func112, ent Tryd.func112 rfl rfl, chk112⟩
  · cases h; exact ⟨Tryd.func113, ent Tryd.func113 rfl rfl, chk113⟩
  · cases h; exact ⟨Tryd.func114, ent Tryd.func114 rfl rfl, chk114⟩
  · cases h; exact ⟨Tryd.func115, ent Tryd.func115 rfl rfl, chk115⟩
  · cases h; exact ⟨Tryd.func116, ent Tryd.func116 rfl rfl, chk116⟩
  · cases h; exact ⟨Tryd.func117, ent Tryd.func117 rfl rfl, chk117⟩
  · cases h; exact ⟨Tryd.func118, ent Tryd.func118 rfl rfl, chk118⟩
  · cases h; exact ⟨Tryd.func119, ent Tryd.func119 rfl rfl, chk119⟩
  · cases h; exact ⟨Tryd.func120, ent Tryd.func120 rfl rfl, chk120⟩
  · cases h; exact ⟨Tryd.func121, ent Tryd.func121 rfl rfl, chk121⟩
  · cases h; exact ⟨Tryd.func122, ent Tryd.func122 rfl rfl, chk122⟩
  · cases h; exact ⟨Tryd.func123, ent Tryd.func123 rfl rfl, chk123⟩
  · cases h; exact ⟨Tryd.func124, ent Tryd.func124 rfl rfl, chk124⟩
  · cases h; exact ⟨Tryd.func125, ent Tryd.func125 rfl rfl, chk125⟩
  · cases h; exact ⟨Tryd.func126, ent Tryd.func126 rfl rfl, chk126⟩
  · exact okF_1 _ _ h
theorem okF_3 : ∀ f fn, F_3 f = some fn → Tryd.prog.funcs[f]? = some fn ∧ Enters Tryd.prog f ∧ ∀ c, fn.body = some c → chk WR (K f) fn.ntmps c = true := by
  intro f fn h
  unfold F_3 at h
  split at h
  · cases h; exact ⟨Tryd.func148, ent Tryd.func148 rfl rfl, chk148⟩
  · cases h; exact ⟨Tryd.func149, ent Tryd.func149 rfl rfl, chk149⟩
  · cases h; exact ⟨Tryd.func150, ent Tryd.func150 rfl rfl, chk150⟩
  · cases h; exact ⟨Tryd.func151, ent Tryd.func151 rfl rfl, chk151⟩
  · cases h; exact ⟨Tryd.func152, ent Tryd.func152 rfl rfl, chk152⟩
  · cases h; exact ⟨Tryd.func153, ent Tryd.func153 rfl rfl, chk153⟩
  · cases h; exact ⟨Tryd.func154, ent Tryd.func154 rfl rfl, chk154⟩
  · cases h; exact ⟨Tryd.func159, ent Tryd.func159 rfl rfl, chk159⟩
  · cases h; exact ⟨Tryd.func160, ent Tryd.func160 rfl rfl, chk160⟩
  · cases h; exact ⟨Tryd.func161, ent Tryd.func161 rfl rfl, chk161⟩
  · cases h; exact ⟨Tryd.func162, ent Tryd.func162 rfl rfl, chk162⟩
  · cases h; exact ⟨Tryd.func163, ent Tryd.func163 rfl rfl, chk163⟩
  · cases h; exact ⟨Tryd.func164, ent Tryd.func164 rfl rfl, chk164⟩
  · cases h; exact ⟨Tryd.func165, ent Tryd.func165 rfl rfl, chk165⟩
  · cases h; exact ⟨Tryd.func183, ent Tryd.func183 rfl rfl, chk183⟩
  · cases h; exact ⟨Tryd.func184, ent Tryd.func184 rfl rfl, chk184⟩
  · cases h; exact ⟨Tryd.func185, ent Tryd.func185 rfl rfl, chk185⟩
  · cases h; exact ⟨Tryd.func186, ent Tryd.func186 rfl rfl, chk186⟩
  · cases h; exact ⟨Tryd.func187, ent Tryd.func187 rfl rfl, chk187⟩
  · cases h; exact ⟨Tryd.func188, ent Tryd.func188 rfl rfl, chk188⟩
  · cases h; exact ⟨Tryd.func189, ent Tryd.func189 rfl rfl, chk189⟩
  · cases h; exact ⟨Tryd.func205, ent Tryd.func205 rfl rfl, chk205⟩
  · cases h; exact ⟨Tryd.func206, ent Tryd.func206 rfl rfl, chk206⟩
  · cases h; exact ⟨Tryd.func207, ent Tryd.func207 rfl rfl, chk207⟩
  · exact okF_2 _ _ h
theorem okF_4 : ∀ f fn, F_4 f = some fn → Tryd.prog.funcs[f]? = some fn ∧ Enters Tryd.prog f ∧ ∀ c, fn.body = some c → chk WR (K f) fn.ntmps c = true := by
  intro f fn h
  unfold F_4 at h
  split at h
  · cases h; exact ⟨Tryd.func208, ent Tryd.func208 rfl rfl, chk208⟩
  · exact okF_3 _ _ h
end Go.Proofs.YthbekdccfleaoaaDoor.Eng
