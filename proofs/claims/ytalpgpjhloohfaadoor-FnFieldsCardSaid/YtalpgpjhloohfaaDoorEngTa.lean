/- The types, the functions and the loops' live slots that the laws reach, first part. No conditions. -/
import Derived.Test.YtalpgpjhloohfaaDoorEngS
import Derived.Test.YtalpgpjhloohfaaDoorProg
import Derived.KernelRfl
import Derived.Test.YtalpgpjhloohfaaDoorShelf
import Derived.WalkKit
import Derived.Laws.Externs
namespace Go.Proofs.YtalpgpjhloohfaaDoor.Eng
open Go Go.Proofs
set_option maxRecDepth 100000
def T : Tab
  | 3 => some ⟨.int .i64, 1, 8, [.int .i64 0], true⟩
  | 4 => some ⟨.bool, 1, 1, [.bool false], true⟩
  | 5 => some ⟨.int .u8, 1, 1, [.int .u8 0], true⟩
  | 9 => some ⟨.str, 1, 16, [.string ByteArray.empty], true⟩
  | 22 => some ⟨(.slice 3), 1, 24, [.slice none 0 0], false⟩
  | 28 => some ⟨(.struct [(0, 1, false), (1, 1, false), (2, 1, false)]), 3, 40, [.int .i64 0, .int .i64 0, .slice none 0 0], false⟩
  | 32 => some ⟨(.slice 5), 1, 24, [.slice none 0 0], false⟩
  | 55 => some ⟨(.struct [(0, 1, false), (1, 1, false)]), 2, 32, [.pointer none, .slice none 0 0], false⟩
  | 57 => some ⟨.ifc, 1, 16, [.nilIface], false⟩
  | 63 => some ⟨(.ptr 66), 1, 8, [.pointer none], false⟩
  | 64 => some ⟨.int .u64, 1, 8, [.int .u64 0], true⟩
  | 66 => some ⟨(.struct [(0, 1, false), (1, 1, false), (2, 1, false)]), 3, 40, [.slice none 0 0, .int .i64 0, .int .u64 0], false⟩
  | 70 => some ⟨.oth, 1, 8, [.nilFunc], false⟩
  | 72 => some ⟨(.slice 9), 1, 24, [.slice none 0 0], false⟩
  | _ => none
theorem T3 : T 3 = some ⟨.int .i64, 1, 8, [.int .i64 0], true⟩ := rfl
theorem ok3 : TiOk Tryd.prog 3 ⟨.int .i64, 1, 8, [.int .i64 0], true⟩ := ⟨(by kernel_rfl : Tryd.prog.underlying 3 = _), (TiOk.of_info (z := (.int .i64 0)) (by kernel_rfl) rfl), rfl, by decide, (fun h => absurd h (by decide))⟩
theorem T4 : T 4 = some ⟨.bool, 1, 1, [.bool false], true⟩ := rfl
theorem ok4 : TiOk Tryd.prog 4 ⟨.bool, 1, 1, [.bool false], true⟩ := ⟨(by kernel_rfl : Tryd.prog.underlying 4 = _), (TiOk.of_info (z := (.bool false)) (by kernel_rfl) rfl), rfl, by decide, (fun h => absurd h (by decide))⟩
theorem T5 : T 5 = some ⟨.int .u8, 1, 1, [.int .u8 0], true⟩ := rfl
theorem ok5 : TiOk Tryd.prog 5 ⟨.int .u8, 1, 1, [.int .u8 0], true⟩ := ⟨(by kernel_rfl : Tryd.prog.underlying 5 = _), (TiOk.of_info (z := (.int .u8 0)) (by kernel_rfl) rfl), rfl, by decide, (fun h => absurd h (by decide))⟩
theorem T9 : T 9 = some ⟨.str, 1, 16, [.string ByteArray.empty], true⟩ := rfl
theorem ok9 : TiOk Tryd.prog 9 ⟨.str, 1, 16, [.string ByteArray.empty], true⟩ := ⟨(by kernel_rfl : Tryd.prog.underlying 9 = _), (TiOk.of_info (z := (.string ByteArray.empty)) (by kernel_rfl) rfl), rfl, by decide, (fun h => absurd h (by decide))⟩
theorem T22 : T 22 = some ⟨(.slice 3), 1, 24, [.slice none 0 0], false⟩ := rfl
theorem ok22 : TiOk Tryd.prog 22 ⟨(.slice 3), 1, 24, [.slice none 0 0], false⟩ := ⟨(by kernel_rfl : Tryd.prog.underlying 22 = _), (TiOk.of_info (z := (.slice none 0 0)) (by kernel_rfl) rfl), rfl, by decide, (fun h => absurd h (by decide))⟩
theorem T28 : T 28 = some ⟨(.struct [(0, 1, false), (1, 1, false), (2, 1, false)]), 3, 40, [.int .i64 0, .int .i64 0, .slice none 0 0], false⟩ := rfl
theorem ok28 : TiOk Tryd.prog 28 ⟨(.struct [(0, 1, false), (1, 1, false), (2, 1, false)]), 3, 40, [.int .i64 0, .int .i64 0, .slice none 0 0], false⟩ := ⟨TiOk.of_struct Tryd.underlying28 (by kernel_rfl), (TiOk.of_info (z := (.agg #[.int .i64 0, .int .i64 0, .slice none 0 0])) (by kernel_rfl) rfl), rfl, by decide, (fun h => absurd h (by decide))⟩
theorem T32 : T 32 = some ⟨(.slice 5), 1, 24, [.slice none 0 0], false⟩ := rfl
theorem ok32 : TiOk Tryd.prog 32 ⟨(.slice 5), 1, 24, [.slice none 0 0], false⟩ := ⟨(by kernel_rfl : Tryd.prog.underlying 32 = _), (TiOk.of_info (z := (.slice none 0 0)) (by kernel_rfl) rfl), rfl, by decide, (fun h => absurd h (by decide))⟩
theorem T55 : T 55 = some ⟨(.struct [(0, 1, false), (1, 1, false)]), 2, 32, [.pointer none, .slice none 0 0], false⟩ := rfl
theorem ok55 : TiOk Tryd.prog 55 ⟨(.struct [(0, 1, false), (1, 1, false)]), 2, 32, [.pointer none, .slice none 0 0], false⟩ := ⟨TiOk.of_struct Tryd.underlying55 (by kernel_rfl), (TiOk.of_info (z := (.agg #[.pointer none, .slice none 0 0])) (by kernel_rfl) rfl), rfl, by decide, (fun h => absurd h (by decide))⟩
theorem T57 : T 57 = some ⟨.ifc, 1, 16, [.nilIface], false⟩ := rfl
theorem ok57 : TiOk Tryd.prog 57 ⟨.ifc, 1, 16, [.nilIface], false⟩ := ⟨⟨_, Tryd.underlying57⟩, (TiOk.of_info (z := (.nilIface)) (by kernel_rfl) rfl), rfl, by decide, (fun h => absurd h (by decide))⟩
theorem T63 : T 63 = some ⟨(.ptr 66), 1, 8, [.pointer none], false⟩ := rfl
theorem ok63 : TiOk Tryd.prog 63 ⟨(.ptr 66), 1, 8, [.pointer none], false⟩ := ⟨(by kernel_rfl : Tryd.prog.underlying 63 = _), (TiOk.of_info (z := (.pointer none)) (by kernel_rfl) rfl), rfl, by decide, (fun h => absurd h (by decide))⟩
theorem T64 : T 64 = some ⟨.int .u64, 1, 8, [.int .u64 0], true⟩ := rfl
theorem ok64 : TiOk Tryd.prog 64 ⟨.int .u64, 1, 8, [.int .u64 0], true⟩ := ⟨(by kernel_rfl : Tryd.prog.underlying 64 = _), (TiOk.of_info (z := (.int .u64 0)) (by kernel_rfl) rfl), rfl, by decide, (fun h => absurd h (by decide))⟩
theorem T66 : T 66 = some ⟨(.struct [(0, 1, false), (1, 1, false), (2, 1, false)]), 3, 40, [.slice none 0 0, .int .i64 0, .int .u64 0], false⟩ := rfl
theorem ok66 : TiOk Tryd.prog 66 ⟨(.struct [(0, 1, false), (1, 1, false), (2, 1, false)]), 3, 40, [.slice none 0 0, .int .i64 0, .int .u64 0], false⟩ := ⟨TiOk.of_struct Tryd.underlying66 (by kernel_rfl), (TiOk.of_info (z := (.agg #[.slice none 0 0, .int .i64 0, .int .u64 0])) (by kernel_rfl) rfl), rfl, by decide, (fun h => absurd h (by decide))⟩
theorem T70 : T 70 = some ⟨.oth, 1, 8, [.nilFunc], false⟩ := rfl
theorem ok70 : TiOk Tryd.prog 70 ⟨.oth, 1, 8, [.nilFunc], false⟩ := ⟨⟨_, Tryd.underlying70, rfl⟩, (TiOk.of_info (z := (.nilFunc)) (by kernel_rfl) rfl), rfl, by decide, (fun h => absurd h (by decide))⟩
theorem T72 : T 72 = some ⟨(.slice 9), 1, 24, [.slice none 0 0], false⟩ := rfl
theorem ok72 : TiOk Tryd.prog 72 ⟨(.slice 9), 1, 24, [.slice none 0 0], false⟩ := ⟨(by kernel_rfl : Tryd.prog.underlying 72 = _), (TiOk.of_info (z := (.slice none 0 0)) (by kernel_rfl) rfl), rfl, by decide, (fun h => absurd h (by decide))⟩
theorem tabOk : TabOk Tryd.prog T := by
  intro t i h
  unfold T at h
  split at h
  · cases h; exact ok3
  · cases h; exact ok4
  · cases h; exact ok5
  · cases h; exact ok9
  · cases h; exact ok22
  · cases h; exact ok28
  · cases h; exact ok32
  · cases h; exact ok55
  · cases h; exact ok57
  · cases h; exact ok63
  · cases h; exact ok64
  · cases h; exact ok66
  · cases h; exact ok70
  · cases h; exact ok72
  · cases h
set_option maxHeartbeats 1000000
def WR (f : FuncId) : Bool := f == 44 || f == 45 || f == 49 || f == 65 || f == 75 || f == 76 || f == 81 || f == 1000032
def OW (f : FuncId) : Bool := f == 999999
def BL : FuncId → Option (Bool × TypeId × TypeId)
  | 40 => some (true, 55, 5)
  | 42 => some (false, 55, 5)
  | _ => none
def K : FuncId → Nat → List Nat
  | 10, 0 => [1, 4, 11, 12, 13]
  | 25, 0 => [2, 5, 28, 29, 30]
  | 25, 1 => [2, 5, 28, 29, 30, 50, 51, 52]
  | 37, 0 => [1, 3]
  | 38, 0 => [1, 3, 4]
  | 38, 1 => [1, 3, 4, 5]
  | 72, 0 => [0, 1, 5]
  | 75, 0 => [0, 2, 3, 4, 5]
  | 93, 0 => [0, 1, 7, 8]
  | 94, 0 => [0, 1, 2, 6, 7, 8]
  | 65, 1006 => [6, 0, 6, 6240, 6, 6241, 9, 0, 9, 6288]
  | 75, 1011 => [6, 0, 6, 11360, 6, 11361, 9, 0, 9, 11408]
  | _, _ => []
@[simp] theorem K10_0 : K 10 0 = [1, 4, 11, 12, 13] := rfl
@[simp] theorem K25_0 : K 25 0 = [2, 5, 28, 29, 30] := rfl
@[simp] theorem K25_1 : K 25 1 = [2, 5, 28, 29, 30, 50, 51, 52] := rfl
@[simp] theorem K37_0 : K 37 0 = [1, 3] := rfl
@[simp] theorem K38_0 : K 38 0 = [1, 3, 4] := rfl
@[simp] theorem K38_1 : K 38 1 = [1, 3, 4, 5] := rfl
@[simp] theorem K72_0 : K 72 0 = [0, 1, 5] := rfl
@[simp] theorem K75_0 : K 75 0 = [0, 2, 3, 4, 5] := rfl
@[simp] theorem K93_0 : K 93 0 = [0, 1, 7, 8] := rfl
@[simp] theorem K94_0 : K 94 0 = [0, 1, 2, 6, 7, 8] := rfl
@[simp] theorem K6_1006 : K 6 1006 = [] := rfl
@[simp] theorem K48_1005 : K 48 1005 = [] := rfl
@[simp] theorem K65_1006 : K 65 1006 = [6, 0, 6, 6240, 6, 6241, 9, 0, 9, 6288] := rfl
@[simp] theorem K68_1001 : K 68 1001 = [] := rfl
@[simp] theorem K71_1001 : K 71 1001 = [] := rfl
@[simp] theorem K72_1006 : K 72 1006 = [] := rfl
@[simp] theorem K75_1011 : K 75 1011 = [6, 0, 6, 11360, 6, 11361, 9, 0, 9, 11408] := rfl
@[simp] theorem K76_1007 : K 76 1007 = [] := rfl
@[simp] theorem K76_1009 : K 76 1009 = [] := rfl
@[simp] theorem K76_1010 : K 76 1010 = [] := rfl
@[simp] theorem K81_1002 : K 81 1002 = [] := rfl
@[simp] theorem K81_1003 : K 81 1003 = [] := rfl
@[simp] theorem K81_1006 : K 81 1006 = [] := rfl
@[simp] theorem BL6 : BL 6 = none := rfl
@[simp] theorem WR6 : WR 6 = false := rfl
@[simp] theorem OW6 : OW 6 = false := rfl
@[simp] theorem BL10 : BL 10 = none := rfl
@[simp] theorem WR10 : WR 10 = false := rfl
@[simp] theorem OW10 : OW 10 = false := rfl
@[simp] theorem BL12 : BL 12 = none := rfl
@[simp] theorem WR12 : WR 12 = false := rfl
@[simp] theorem OW12 : OW 12 = false := rfl
@[simp] theorem BL17 : BL 17 = none := rfl
@[simp] theorem WR17 : WR 17 = false := rfl
@[simp] theorem OW17 : OW 17 = false := rfl
@[simp] theorem BL25 : BL 25 = none := rfl
@[simp] theorem WR25 : WR 25 = false := rfl
@[simp] theorem OW25 : OW 25 = false := rfl
@[simp] theorem BL28 : BL 28 = none := rfl
@[simp] theorem WR28 : WR 28 = false := rfl
@[simp] theorem OW28 : OW 28 = false := rfl
@[simp] theorem BL29 : BL 29 = none := rfl
@[simp] theorem WR29 : WR 29 = false := rfl
@[simp] theorem OW29 : OW 29 = false := rfl
@[simp] theorem BL30 : BL 30 = none := rfl
@[simp] theorem WR30 : WR 30 = false := rfl
@[simp] theorem OW30 : OW 30 = false := rfl
@[simp] theorem BL31 : BL 31 = none := rfl
@[simp] theorem WR31 : WR 31 = false := rfl
@[simp] theorem OW31 : OW 31 = false := rfl
@[simp] theorem BL32 : BL 32 = none := rfl
@[simp] theorem WR32 : WR 32 = false := rfl
@[simp] theorem OW32 : OW 32 = false := rfl
@[simp] theorem BL33 : BL 33 = none := rfl
@[simp] theorem WR33 : WR 33 = false := rfl
@[simp] theorem OW33 : OW 33 = false := rfl
@[simp] theorem BL34 : BL 34 = none := rfl
@[simp] theorem WR34 : WR 34 = false := rfl
@[simp] theorem OW34 : OW 34 = false := rfl
@[simp] theorem BL35 : BL 35 = none := rfl
@[simp] theorem WR35 : WR 35 = false := rfl
@[simp] theorem OW35 : OW 35 = false := rfl
@[simp] theorem BL37 : BL 37 = none := rfl
@[simp] theorem WR37 : WR 37 = false := rfl
@[simp] theorem OW37 : OW 37 = false := rfl
@[simp] theorem BL38 : BL 38 = none := rfl
@[simp] theorem WR38 : WR 38 = false := rfl
@[simp] theorem OW38 : OW 38 = false := rfl
@[simp] theorem BL44 : BL 44 = none := rfl
@[simp] theorem WR44 : WR 44 = true := rfl
@[simp] theorem OW44 : OW 44 = false := rfl
@[simp] theorem BL45 : BL 45 = none := rfl
@[simp] theorem WR45 : WR 45 = true := rfl
@[simp] theorem OW45 : OW 45 = false := rfl
@[simp] theorem BL46 : BL 46 = none := rfl
@[simp] theorem WR46 : WR 46 = false := rfl
@[simp] theorem OW46 : OW 46 = false := rfl
@[simp] theorem BL47 : BL 47 = none := rfl
@[simp] theorem WR47 : WR 47 = false := rfl
@[simp] theorem OW47 : OW 47 = false := rfl
@[simp] theorem BL48 : BL 48 = none := rfl
@[simp] theorem WR48 : WR 48 = false := rfl
@[simp] theorem OW48 : OW 48 = false := rfl
@[simp] theorem BL49 : BL 49 = none := rfl
@[simp] theorem WR49 : WR 49 = true := rfl
@[simp] theorem OW49 : OW 49 = false := rfl
@[simp] theorem BL60 : BL 60 = none := rfl
@[simp] theorem WR60 : WR 60 = false := rfl
@[simp] theorem OW60 : OW 60 = false := rfl
@[simp] theorem BL62 : BL 62 = none := rfl
@[simp] theorem WR62 : WR 62 = false := rfl
@[simp] theorem OW62 : OW 62 = false := rfl
@[simp] theorem BL65 : BL 65 = none := rfl
@[simp] theorem WR65 : WR 65 = true := rfl
@[simp] theorem OW65 : OW 65 = false := rfl
@[simp] theorem BL66 : BL 66 = none := rfl
@[simp] theorem WR66 : WR 66 = false := rfl
@[simp] theorem OW66 : OW 66 = false := rfl
@[simp] theorem BL67 : BL 67 = none := rfl
@[simp] theorem WR67 : WR 67 = false := rfl
@[simp] theorem OW67 : OW 67 = false := rfl
@[simp] theorem BL68 : BL 68 = none := rfl
@[simp] theorem WR68 : WR 68 = false := rfl
@[simp] theorem OW68 : OW 68 = false := rfl
@[simp] theorem BL69 : BL 69 = none := rfl
@[simp] theorem WR69 : WR 69 = false := rfl
@[simp] theorem OW69 : OW 69 = false := rfl
@[simp] theorem BL70 : BL 70 = none := rfl
@[simp] theorem WR70 : WR 70 = false := rfl
@[simp] theorem OW70 : OW 70 = false := rfl
@[simp] theorem BL71 : BL 71 = none := rfl
@[simp] theorem WR71 : WR 71 = false := rfl
@[simp] theorem OW71 : OW 71 = false := rfl
@[simp] theorem BL72 : BL 72 = none := rfl
@[simp] theorem WR72 : WR 72 = false := rfl
@[simp] theorem OW72 : OW 72 = false := rfl
@[simp] theorem BL73 : BL 73 = none := rfl
@[simp] theorem WR73 : WR 73 = false := rfl
@[simp] theorem OW73 : OW 73 = false := rfl
@[simp] theorem BL74 : BL 74 = none := rfl
@[simp] theorem WR74 : WR 74 = false := rfl
@[simp] theorem OW74 : OW 74 = false := rfl
@[simp] theorem BL75 : BL 75 = none := rfl
@[simp] theorem WR75 : WR 75 = true := rfl
@[simp] theorem OW75 : OW 75 = false := rfl
@[simp] theorem BL76 : BL 76 = none := rfl
@[simp] theorem WR76 : WR 76 = true := rfl
@[simp] theorem OW76 : OW 76 = false := rfl
@[simp] theorem BL77 : BL 77 = none := rfl
@[simp] theorem WR77 : WR 77 = false := rfl
@[simp] theorem OW77 : OW 77 = false := rfl
@[simp] theorem BL78 : BL 78 = none := rfl
@[simp] theorem WR78 : WR 78 = false := rfl
@[simp] theorem OW78 : OW 78 = false := rfl
@[simp] theorem BL81 : BL 81 = none := rfl
@[simp] theorem WR81 : WR 81 = true := rfl
@[simp] theorem OW81 : OW 81 = false := rfl
@[simp] theorem BL88 : BL 88 = none := rfl
@[simp] theorem WR88 : WR 88 = false := rfl
@[simp] theorem OW88 : OW 88 = false := rfl
@[simp] theorem BL90 : BL 90 = none := rfl
@[simp] theorem WR90 : WR 90 = false := rfl
@[simp] theorem OW90 : OW 90 = false := rfl
@[simp] theorem BL91 : BL 91 = none := rfl
@[simp] theorem WR91 : WR 91 = false := rfl
@[simp] theorem OW91 : OW 91 = false := rfl
@[simp] theorem BL92 : BL 92 = none := rfl
@[simp] theorem WR92 : WR 92 = false := rfl
@[simp] theorem OW92 : OW 92 = false := rfl
@[simp] theorem BL93 : BL 93 = none := rfl
@[simp] theorem WR93 : WR 93 = false := rfl
@[simp] theorem OW93 : OW 93 = false := rfl
@[simp] theorem BL94 : BL 94 = none := rfl
@[simp] theorem WR94 : WR 94 = false := rfl
@[simp] theorem OW94 : OW 94 = false := rfl
@[simp] theorem BL41 : BL 41 = none := rfl
@[simp] theorem WR41 : WR 41 = false := rfl
@[simp] theorem OW41 : OW 41 = false := rfl
@[simp] theorem BL51 : BL 51 = none := rfl
@[simp] theorem WR51 : WR 51 = false := rfl
@[simp] theorem OW51 : OW 51 = false := rfl
@[simp] theorem BL61 : BL 61 = none := rfl
@[simp] theorem WR61 : WR 61 = false := rfl
@[simp] theorem OW61 : OW 61 = false := rfl
@[simp] theorem BL40 : BL 40 = some (true, 55, 5) := rfl
@[simp] theorem WR40 : WR 40 = false := rfl
@[simp] theorem OW40 : OW 40 = false := rfl
@[simp] theorem BL42 : BL 42 = some (false, 55, 5) := rfl
@[simp] theorem WR42 : WR 42 = false := rfl
@[simp] theorem OW42 : OW 42 = false := rfl
@[simp] theorem WRt3 : WR 1000003 = false := rfl
@[simp] theorem WRt4 : WR 1000004 = false := rfl
@[simp] theorem WRt5 : WR 1000005 = false := rfl
@[simp] theorem WRt9 : WR 1000009 = false := rfl
@[simp] theorem WRt22 : WR 1000022 = false := rfl
@[simp] theorem WRt28 : WR 1000028 = false := rfl
@[simp] theorem WRt32 : WR 1000032 = true := rfl
@[simp] theorem WRt55 : WR 1000055 = false := rfl
@[simp] theorem WRt57 : WR 1000057 = false := rfl
@[simp] theorem WRt63 : WR 1000063 = false := rfl
@[simp] theorem WRt64 : WR 1000064 = false := rfl
@[simp] theorem WRt66 : WR 1000066 = false := rfl
@[simp] theorem WRt70 : WR 1000070 = false := rfl
@[simp] theorem WRt72 : WR 1000072 = false := rfl
noncomputable def F_0 : FuncId → Option Func
  | 6 => some Tryd.f6
  | 10 => some Tryd.f10
  | 12 => some Tryd.f12
  | 17 => some Tryd.f17
  | 25 => some Tryd.f25
  | 28 => some Tryd.f28
  | 29 => some Tryd.f29
  | 30 => some Tryd.f30
  | 31 => some Tryd.f31
  | 32 => some Tryd.f32
  | 33 => some Tryd.f33
  | 34 => some Tryd.f34
  | 35 => some Tryd.f35
  | 37 => some Tryd.f37
  | 38 => some Tryd.f38
  | 44 => some Tryd.f44
  | 45 => some Tryd.f45
  | 46 => some Tryd.f46
  | 47 => some Tryd.f47
  | 48 => some Tryd.f48
  | 49 => some Tryd.f49
  | 60 => some Tryd.f60
  | 62 => some Tryd.f62
  | 65 => some Tryd.f65
  | f => none
noncomputable def F_1 : FuncId → Option Func
  | 66 => some Tryd.f66
  | 67 => some Tryd.f67
  | 68 => some Tryd.f68
  | 69 => some Tryd.f69
  | 70 => some Tryd.f70
  | 71 => some Tryd.f71
  | 72 => some Tryd.f72
  | 73 => some Tryd.f73
  | 74 => some Tryd.f74
  | 75 => some Tryd.f75
  | 76 => some Tryd.f76
  | 77 => some Tryd.f77
  | 78 => some Tryd.f78
  | 81 => some Tryd.f81
  | 88 => some Tryd.f88
  | 90 => some Tryd.f90
  | 91 => some Tryd.f91
  | 92 => some Tryd.f92
  | 93 => some Tryd.f93
  | 94 => some Tryd.f94
  | f => F_0 f
noncomputable def F : FuncId → Option Func := F_1
theorem F6 : F 6 = some Tryd.f6 := rfl
theorem chk6 : ∀ c, Tryd.f6.body = some c → chk WR (K 6) Tryd.f6.ntmps c = true := by intro c h; cases h; decide +kernel
theorem F10 : F 10 = some Tryd.f10 := rfl
theorem chk10 : ∀ c, Tryd.f10.body = some c → chk WR (K 10) Tryd.f10.ntmps c = true := by intro c h; cases h; decide +kernel
theorem F12 : F 12 = some Tryd.f12 := rfl
theorem chk12 : ∀ c, Tryd.f12.body = some c → chk WR (K 12) Tryd.f12.ntmps c = true := by intro c h; cases h; decide +kernel
theorem F17 : F 17 = some Tryd.f17 := rfl
theorem chk17 : ∀ c, Tryd.f17.body = some c → chk WR (K 17) Tryd.f17.ntmps c = true := by intro c h; cases h; decide +kernel
theorem F25 : F 25 = some Tryd.f25 := rfl
theorem chk25 : ∀ c, Tryd.f25.body = some c → chk WR (K 25) Tryd.f25.ntmps c = true := by intro c h; cases h; decide +kernel
theorem F28 : F 28 = some Tryd.f28 := rfl
theorem chk28 : ∀ c, Tryd.f28.body = some c → chk WR (K 28) Tryd.f28.ntmps c = true := by intro c h; cases h; decide +kernel
theorem F29 : F 29 = some Tryd.f29 := rfl
theorem chk29 : ∀ c, Tryd.f29.body = some c → chk WR (K 29) Tryd.f29.ntmps c = true := by intro c h; cases h; decide +kernel
theorem F30 : F 30 = some Tryd.f30 := rfl
theorem chk30 : ∀ c, Tryd.f30.body = some c → chk WR (K 30) Tryd.f30.ntmps c = true := by intro c h; cases h; decide +kernel
theorem F31 : F 31 = some Tryd.f31 := rfl
theorem chk31 : ∀ c, Tryd.f31.body = some c → chk WR (K 31) Tryd.f31.ntmps c = true := by intro c h; cases h; decide +kernel
theorem F32 : F 32 = some Tryd.f32 := rfl
theorem chk32 : ∀ c, Tryd.f32.body = some c → chk WR (K 32) Tryd.f32.ntmps c = true := by intro c h; cases h; decide +kernel
theorem F33 : F 33 = some Tryd.f33 := rfl
theorem chk33 : ∀ c, Tryd.f33.body = some c → chk WR (K 33) Tryd.f33.ntmps c = true := by intro c h; cases h; decide +kernel
theorem F34 : F 34 = some Tryd.f34 := rfl
theorem chk34 : ∀ c, Tryd.f34.body = some c → chk WR (K 34) Tryd.f34.ntmps c = true := by intro c h; cases h; decide +kernel
theorem F35 : F 35 = some Tryd.f35 := rfl
theorem chk35 : ∀ c, Tryd.f35.body = some c → chk WR (K 35) Tryd.f35.ntmps c = true := by intro c h; cases h; decide +kernel
theorem F37 : F 37 = some Tryd.f37 := rfl
theorem chk37 : ∀ c, Tryd.f37.body = some c → chk WR (K 37) Tryd.f37.ntmps c = true := by intro c h; cases h; decide +kernel
theorem F38 : F 38 = some Tryd.f38 := rfl
theorem chk38 : ∀ c, Tryd.f38.body = some c → chk WR (K 38) Tryd.f38.ntmps c = true := by intro c h; cases h; decide +kernel
theorem F44 : F 44 = some Tryd.f44 := rfl
theorem chk44 : ∀ c, Tryd.f44.body = some c → chk WR (K 44) Tryd.f44.ntmps c = true := by intro c h; cases h; decide +kernel
theorem F45 : F 45 = some Tryd.f45 := rfl
theorem chk45 : ∀ c, Tryd.f45.body = some c → chk WR (K 45) Tryd.f45.ntmps c = true := by intro c h; cases h; decide +kernel
theorem F46 : F 46 = some Tryd.f46 := rfl
theorem chk46 : ∀ c, Tryd.f46.body = some c → chk WR (K 46) Tryd.f46.ntmps c = true := by intro c h; cases h; decide +kernel
theorem F47 : F 47 = some Tryd.f47 := rfl
theorem chk47 : ∀ c, Tryd.f47.body = some c → chk WR (K 47) Tryd.f47.ntmps c = true := by intro c h; cases h; decide +kernel
theorem F48 : F 48 = some Tryd.f48 := rfl
theorem chk48 : ∀ c, Tryd.f48.body = some c → chk WR (K 48) Tryd.f48.ntmps c = true := by intro c h; cases h; decide +kernel
theorem F49 : F 49 = some Tryd.f49 := rfl
theorem chk49 : ∀ c, Tryd.f49.body = some c → chk WR (K 49) Tryd.f49.ntmps c = true := by intro c h; cases h; decide +kernel
theorem F60 : F 60 = some Tryd.f60 := rfl
theorem chk60 : ∀ c, Tryd.f60.body = some c → chk WR (K 60) Tryd.f60.ntmps c = true := by intro c h; cases h; decide +kernel
theorem F62 : F 62 = some Tryd.f62 := rfl
theorem chk62 : ∀ c, Tryd.f62.body = some c → chk WR (K 62) Tryd.f62.ntmps c = true := by intro c h; cases h; decide +kernel
theorem F65 : F 65 = some Tryd.f65 := rfl
theorem chk65 : ∀ c, Tryd.f65.body = some c → chk WR (K 65) Tryd.f65.ntmps c = true := by intro c h; cases h; decide +kernel
theorem F66 : F 66 = some Tryd.f66 := rfl
theorem chk66 : ∀ c, Tryd.f66.body = some c → chk WR (K 66) Tryd.f66.ntmps c = true := by intro c h; cases h; decide +kernel
theorem F67 : F 67 = some Tryd.f67 := rfl
theorem chk67 : ∀ c, Tryd.f67.body = some c → chk WR (K 67) Tryd.f67.ntmps c = true := by intro c h; cases h; decide +kernel
theorem F68 : F 68 = some Tryd.f68 := rfl
theorem chk68 : ∀ c, Tryd.f68.body = some c → chk WR (K 68) Tryd.f68.ntmps c = true := by intro c h; cases h; decide +kernel
theorem F69 : F 69 = some Tryd.f69 := rfl
theorem chk69 : ∀ c, Tryd.f69.body = some c → chk WR (K 69) Tryd.f69.ntmps c = true := by intro c h; cases h; decide +kernel
theorem F70 : F 70 = some Tryd.f70 := rfl
theorem chk70 : ∀ c, Tryd.f70.body = some c → chk WR (K 70) Tryd.f70.ntmps c = true := by intro c h; cases h; decide +kernel
theorem F71 : F 71 = some Tryd.f71 := rfl
theorem chk71 : ∀ c, Tryd.f71.body = some c → chk WR (K 71) Tryd.f71.ntmps c = true := by intro c h; cases h; decide +kernel
theorem F72 : F 72 = some Tryd.f72 := rfl
theorem chk72 : ∀ c, Tryd.f72.body = some c → chk WR (K 72) Tryd.f72.ntmps c = true := by intro c h; cases h; decide +kernel
theorem F73 : F 73 = some Tryd.f73 := rfl
theorem chk73 : ∀ c, Tryd.f73.body = some c → chk WR (K 73) Tryd.f73.ntmps c = true := by intro c h; cases h; decide +kernel
theorem F74 : F 74 = some Tryd.f74 := rfl
theorem chk74 : ∀ c, Tryd.f74.body = some c → chk WR (K 74) Tryd.f74.ntmps c = true := by intro c h; cases h; decide +kernel
theorem F75 : F 75 = some Tryd.f75 := rfl
theorem chk75 : ∀ c, Tryd.f75.body = some c → chk WR (K 75) Tryd.f75.ntmps c = true := by intro c h; cases h; decide +kernel
theorem F76 : F 76 = some Tryd.f76 := rfl
theorem chk76 : ∀ c, Tryd.f76.body = some c → chk WR (K 76) Tryd.f76.ntmps c = true := by intro c h; cases h; decide +kernel
theorem F77 : F 77 = some Tryd.f77 := rfl
theorem chk77 : ∀ c, Tryd.f77.body = some c → chk WR (K 77) Tryd.f77.ntmps c = true := by intro c h; cases h; decide +kernel
theorem F78 : F 78 = some Tryd.f78 := rfl
theorem chk78 : ∀ c, Tryd.f78.body = some c → chk WR (K 78) Tryd.f78.ntmps c = true := by intro c h; cases h; decide +kernel
theorem F81 : F 81 = some Tryd.f81 := rfl
theorem chk81 : ∀ c, Tryd.f81.body = some c → chk WR (K 81) Tryd.f81.ntmps c = true := by intro c h; cases h; decide +kernel
theorem F88 : F 88 = some Tryd.f88 := rfl
theorem chk88 : ∀ c, Tryd.f88.body = some c → chk WR (K 88) Tryd.f88.ntmps c = true := by intro c h; cases h; decide +kernel
theorem F90 : F 90 = some Tryd.f90 := rfl
theorem chk90 : ∀ c, Tryd.f90.body = some c → chk WR (K 90) Tryd.f90.ntmps c = true := by intro c h; cases h; decide +kernel
theorem F91 : F 91 = some Tryd.f91 := rfl
theorem chk91 : ∀ c, Tryd.f91.body = some c → chk WR (K 91) Tryd.f91.ntmps c = true := by intro c h; cases h; decide +kernel
theorem F92 : F 92 = some Tryd.f92 := rfl
theorem chk92 : ∀ c, Tryd.f92.body = some c → chk WR (K 92) Tryd.f92.ntmps c = true := by intro c h; cases h; decide +kernel
theorem F93 : F 93 = some Tryd.f93 := rfl
theorem chk93 : ∀ c, Tryd.f93.body = some c → chk WR (K 93) Tryd.f93.ntmps c = true := by intro c h; cases h; decide +kernel
theorem F94 : F 94 = some Tryd.f94 := rfl
theorem chk94 : ∀ c, Tryd.f94.body = some c → chk WR (K 94) Tryd.f94.ntmps c = true := by intro c h; cases h; decide +kernel
theorem ent {f : FuncId} {fn : Func} (h : Tryd.prog.funcs[f]? = some fn) (hb : fn.body.isSome = true) (hn : (fn.name == "runtime.NumGoroutine") = false) : Enters Tryd.prog f := enters_mk h hb hn
theorem okF_0 : ∀ f fn, F_0 f = some fn → Tryd.prog.funcs[f]? = some fn ∧ Enters Tryd.prog f ∧ ∀ c, fn.body = some c → chk WR (K f) fn.ntmps c = true := by
  intro f fn h
  unfold F_0 at h
  split at h
  · cases h; exact ⟨Tryd.func6, ent Tryd.func6 rfl rfl, chk6⟩
  · cases h; exact ⟨Tryd.func10, ent Tryd.func10 rfl rfl, chk10⟩
  · cases h; exact ⟨Tryd.func12, ent Tryd.func12 rfl rfl, chk12⟩
  · cases h; exact ⟨Tryd.func17, ent Tryd.func17 rfl rfl, chk17⟩
  · cases h; exact ⟨Tryd.func25, ent Tryd.func25 rfl rfl, chk25⟩
  · cases h; exact ⟨Tryd.func28, ent Tryd.func28 rfl rfl, chk28⟩
  · cases h; exact ⟨Tryd.func29, ent Tryd.func29 rfl rfl, chk29⟩
  · cases h; exact ⟨Tryd.func30, ent Tryd.func30 rfl rfl, chk30⟩
  · cases h; exact ⟨Tryd.func31, ent Tryd.func31 rfl rfl, chk31⟩
  · cases h; exact ⟨Tryd.func32, ent Tryd.func32 rfl rfl, chk32⟩
  · cases h; exact ⟨Tryd.func33, ent Tryd.func33 rfl rfl, chk33⟩
  · cases h; exact ⟨Tryd.func34, ent Tryd.func34 rfl rfl, chk34⟩
  · cases h; exact ⟨Tryd.func35, ent Tryd.func35 rfl rfl, chk35⟩
  · cases h; exact ⟨Tryd.func37, ent Tryd.func37 rfl rfl, chk37⟩
  · cases h; exact ⟨Tryd.func38, ent Tryd.func38 rfl rfl, chk38⟩
  · cases h; exact ⟨Tryd.func44, ent Tryd.func44 rfl rfl, chk44⟩
  · cases h; exact ⟨Tryd.func45, ent Tryd.func45 rfl rfl, chk45⟩
  · cases h; exact ⟨Tryd.func46, ent Tryd.func46 rfl rfl, chk46⟩
  · cases h; exact ⟨Tryd.func47, ent Tryd.func47 rfl rfl, chk47⟩
  · cases h; exact ⟨Tryd.func48, ent Tryd.func48 rfl rfl, chk48⟩
  · cases h; exact ⟨Tryd.func49, ent Tryd.func49 rfl rfl, chk49⟩
  · cases h; exact ⟨Tryd.func60, ent Tryd.func60 rfl rfl, chk60⟩
  · cases h; exact ⟨Tryd.func62, ent Tryd.func62 rfl rfl, chk62⟩
  · cases h; exact ⟨Tryd.func65, ent Tryd.func65 rfl rfl, chk65⟩
  · cases h
theorem okF_1 : ∀ f fn, F_1 f = some fn → Tryd.prog.funcs[f]? = some fn ∧ Enters Tryd.prog f ∧ ∀ c, fn.body = some c → chk WR (K f) fn.ntmps c = true := by
  intro f fn h
  unfold F_1 at h
  split at h
  · cases h; exact ⟨Tryd.func66, ent Tryd.func66 rfl rfl, chk66⟩
  · cases h; exact ⟨Tryd.func67, ent Tryd.func67 rfl rfl, chk67⟩
  · cases h; exact ⟨Tryd.func68, ent Tryd.func68 rfl rfl, chk68⟩
  · cases h; exact ⟨Tryd.func69, ent Tryd.func69 rfl rfl, chk69⟩
  · cases h; exact ⟨Tryd.func70, ent Tryd.func70 rfl rfl, chk70⟩
  · cases h; exact ⟨Tryd.func71, ent Tryd.func71 rfl rfl, chk71⟩
  · cases h; exact ⟨Tryd.func72, ent Tryd.func72 rfl rfl, chk72⟩
  · cases h; exact ⟨Tryd.func73, ent Tryd.func73 rfl rfl, chk73⟩
  · cases h; exact ⟨Tryd.func74, ent Tryd.func74 rfl rfl, chk74⟩
  · cases h; exact ⟨Tryd.func75, ent Tryd.func75 rfl rfl, chk75⟩
  · cases h; exact ⟨Tryd.func76, ent Tryd.func76 rfl rfl, chk76⟩
  · cases h; exact ⟨Tryd.func77, ent Tryd.func77 rfl rfl, chk77⟩
  · cases h; exact ⟨Tryd.func78, ent Tryd.func78 rfl rfl, chk78⟩
  · cases h; exact ⟨Tryd.func81, ent Tryd.func81 rfl rfl, chk81⟩
  · cases h; exact ⟨Tryd.func88, ent Tryd.func88 rfl rfl, chk88⟩
  · cases h; exact ⟨Tryd.func90, ent Tryd.func90 rfl rfl, chk90⟩
  · cases h; exact ⟨Tryd.func91, ent Tryd.func91 rfl rfl, chk91⟩
  · cases h; exact ⟨Tryd.func92, ent Tryd.func92 rfl rfl, chk92⟩
  · cases h; exact ⟨Tryd.func93, ent Tryd.func93 rfl rfl, chk93⟩
  · cases h; exact ⟨Tryd.func94, ent Tryd.func94 rfl rfl, chk94⟩
  · exact okF_0 _ _ h
end Go.Proofs.YtalpgpjhloohfaaDoor.Eng
