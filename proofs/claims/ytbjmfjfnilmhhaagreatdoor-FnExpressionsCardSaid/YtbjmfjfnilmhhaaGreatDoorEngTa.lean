/- The types, the functions and the loops' live slots that the laws reach, first part. No conditions. -/
import Derived.Test.YtbjmfjfnilmhhaaGreatDoorEngS
import Derived.Test.YtbjmfjfnilmhhaaGreatDoorProg
import Derived.KernelRfl
import Derived.Test.YtbjmfjfnilmhhaaGreatDoorShelf
import Derived.WalkKit
import Derived.Laws.Externs
namespace Go.Proofs.YtbjmfjfnilmhhaaGreatDoor.Eng
open Go Go.Proofs
set_option maxRecDepth 100000
def T : Tab
  | 3 => some ⟨.int .i64, 1, 8, [.int .i64 0], true⟩
  | 4 => some ⟨.bool, 1, 1, [.bool false], true⟩
  | 5 => some ⟨.int .u8, 1, 1, [.int .u8 0], true⟩
  | 9 => some ⟨.str, 1, 16, [.string ByteArray.empty], true⟩
  | 22 => some ⟨(.slice 5), 1, 24, [.slice none 0 0], false⟩
  | 24 => some ⟨(.slice 48), 1, 24, [.slice none 0 0], false⟩
  | 33 => some ⟨(.slice 38), 1, 24, [.slice none 0 0], false⟩
  | 36 => some ⟨(.slice 3), 1, 24, [.slice none 0 0], false⟩
  | 38 => some ⟨(.struct [(0, 1, false), (1, 1, false), (2, 1, false)]), 3, 40, [.int .i64 0, .int .i64 0, .slice none 0 0], false⟩
  | 45 => some ⟨(.struct [(0, 1, false), (1, 1, false), (2, 1, false)]), 3, 48, [.string ByteArray.empty, .slice none 0 0, .bool false], false⟩
  | 48 => some ⟨(.struct [(0, 1, false), (1, 1, false)]), 2, 16, [.int .i64 0, .int .i64 0], true⟩
  | 51 => some ⟨(.ptr 54), 1, 8, [.pointer none], false⟩
  | 52 => some ⟨.int .u64, 1, 8, [.int .u64 0], true⟩
  | 54 => some ⟨(.struct [(0, 1, false), (1, 1, false), (2, 1, false)]), 3, 40, [.slice none 0 0, .int .i64 0, .int .u64 0], false⟩
  | 56 => some ⟨.oth, 1, 8, [.nilFunc], false⟩
  | 71 => some ⟨(.slice 9), 1, 24, [.slice none 0 0], false⟩
  | 72 => some ⟨(.slice 4), 1, 24, [.slice none 0 0], false⟩
  | 74 => some ⟨(.ptr 45), 1, 8, [.pointer none], false⟩
  | 77 => some ⟨.oth, 1, 8, [.nilFunc], false⟩
  | 99 => some ⟨.oth, 1, 8, [.nilFunc], false⟩
  | 104 => some ⟨.int .u64, 1, 8, [.int .u64 0], true⟩
  | 117 => some ⟨.ifc, 1, 16, [.nilIface], false⟩
  | 121 => some ⟨.int .u32, 1, 4, [.int .u32 0], true⟩
  | _ => none
theorem T3 : T 3 = some ⟨.int .i64, 1, 8, [.int .i64 0], true⟩ := rfl
theorem ok3 : TiOk Tryz.prog 3 ⟨.int .i64, 1, 8, [.int .i64 0], true⟩ := ⟨(by kernel_rfl : Tryz.prog.underlying 3 = _), (TiOk.of_info (z := (.int .i64 0)) (by kernel_rfl) rfl), rfl, by decide, (fun h => absurd h (by decide))⟩
theorem T4 : T 4 = some ⟨.bool, 1, 1, [.bool false], true⟩ := rfl
theorem ok4 : TiOk Tryz.prog 4 ⟨.bool, 1, 1, [.bool false], true⟩ := ⟨(by kernel_rfl : Tryz.prog.underlying 4 = _), (TiOk.of_info (z := (.bool false)) (by kernel_rfl) rfl), rfl, by decide, (fun h => absurd h (by decide))⟩
theorem T5 : T 5 = some ⟨.int .u8, 1, 1, [.int .u8 0], true⟩ := rfl
theorem ok5 : TiOk Tryz.prog 5 ⟨.int .u8, 1, 1, [.int .u8 0], true⟩ := ⟨(by kernel_rfl : Tryz.prog.underlying 5 = _), (TiOk.of_info (z := (.int .u8 0)) (by kernel_rfl) rfl), rfl, by decide, (fun h => absurd h (by decide))⟩
theorem T9 : T 9 = some ⟨.str, 1, 16, [.string ByteArray.empty], true⟩ := rfl
theorem ok9 : TiOk Tryz.prog 9 ⟨.str, 1, 16, [.string ByteArray.empty], true⟩ := ⟨(by kernel_rfl : Tryz.prog.underlying 9 = _), (TiOk.of_info (z := (.string ByteArray.empty)) (by kernel_rfl) rfl), rfl, by decide, (fun h => absurd h (by decide))⟩
theorem T22 : T 22 = some ⟨(.slice 5), 1, 24, [.slice none 0 0], false⟩ := rfl
theorem ok22 : TiOk Tryz.prog 22 ⟨(.slice 5), 1, 24, [.slice none 0 0], false⟩ := ⟨(by kernel_rfl : Tryz.prog.underlying 22 = _), (TiOk.of_info (z := (.slice none 0 0)) (by kernel_rfl) rfl), rfl, by decide, (fun h => absurd h (by decide))⟩
theorem T24 : T 24 = some ⟨(.slice 48), 1, 24, [.slice none 0 0], false⟩ := rfl
theorem ok24 : TiOk Tryz.prog 24 ⟨(.slice 48), 1, 24, [.slice none 0 0], false⟩ := ⟨(by kernel_rfl : Tryz.prog.underlying 24 = _), (TiOk.of_info (z := (.slice none 0 0)) (by kernel_rfl) rfl), rfl, by decide, (fun h => absurd h (by decide))⟩
theorem T33 : T 33 = some ⟨(.slice 38), 1, 24, [.slice none 0 0], false⟩ := rfl
theorem ok33 : TiOk Tryz.prog 33 ⟨(.slice 38), 1, 24, [.slice none 0 0], false⟩ := ⟨(by kernel_rfl : Tryz.prog.underlying 33 = _), (TiOk.of_info (z := (.slice none 0 0)) (by kernel_rfl) rfl), rfl, by decide, (fun h => absurd h (by decide))⟩
theorem T36 : T 36 = some ⟨(.slice 3), 1, 24, [.slice none 0 0], false⟩ := rfl
theorem ok36 : TiOk Tryz.prog 36 ⟨(.slice 3), 1, 24, [.slice none 0 0], false⟩ := ⟨(by kernel_rfl : Tryz.prog.underlying 36 = _), (TiOk.of_info (z := (.slice none 0 0)) (by kernel_rfl) rfl), rfl, by decide, (fun h => absurd h (by decide))⟩
theorem T38 : T 38 = some ⟨(.struct [(0, 1, false), (1, 1, false), (2, 1, false)]), 3, 40, [.int .i64 0, .int .i64 0, .slice none 0 0], false⟩ := rfl
theorem ok38 : TiOk Tryz.prog 38 ⟨(.struct [(0, 1, false), (1, 1, false), (2, 1, false)]), 3, 40, [.int .i64 0, .int .i64 0, .slice none 0 0], false⟩ := ⟨TiOk.of_struct Tryz.underlying38 (by kernel_rfl), (TiOk.of_info (z := (.agg #[.int .i64 0, .int .i64 0, .slice none 0 0])) (by kernel_rfl) rfl), rfl, by decide, (fun h => absurd h (by decide))⟩
theorem T45 : T 45 = some ⟨(.struct [(0, 1, false), (1, 1, false), (2, 1, false)]), 3, 48, [.string ByteArray.empty, .slice none 0 0, .bool false], false⟩ := rfl
theorem ok45 : TiOk Tryz.prog 45 ⟨(.struct [(0, 1, false), (1, 1, false), (2, 1, false)]), 3, 48, [.string ByteArray.empty, .slice none 0 0, .bool false], false⟩ := ⟨TiOk.of_struct Tryz.underlying45 (by kernel_rfl), (TiOk.of_info (z := (.agg #[.string ByteArray.empty, .slice none 0 0, .bool false])) (by kernel_rfl) rfl), rfl, by decide, (fun h => absurd h (by decide))⟩
theorem T48 : T 48 = some ⟨(.struct [(0, 1, false), (1, 1, false)]), 2, 16, [.int .i64 0, .int .i64 0], true⟩ := rfl
theorem ok48 : TiOk Tryz.prog 48 ⟨(.struct [(0, 1, false), (1, 1, false)]), 2, 16, [.int .i64 0, .int .i64 0], true⟩ := ⟨TiOk.of_struct Tryz.underlying48 (by kernel_rfl), (TiOk.of_info (z := (.agg #[.int .i64 0, .int .i64 0])) (by kernel_rfl) rfl), rfl, by decide, (fun _ => by kernel_rfl)⟩
theorem T51 : T 51 = some ⟨(.ptr 54), 1, 8, [.pointer none], false⟩ := rfl
theorem ok51 : TiOk Tryz.prog 51 ⟨(.ptr 54), 1, 8, [.pointer none], false⟩ := ⟨(by kernel_rfl : Tryz.prog.underlying 51 = _), (TiOk.of_info (z := (.pointer none)) (by kernel_rfl) rfl), rfl, by decide, (fun h => absurd h (by decide))⟩
theorem T52 : T 52 = some ⟨.int .u64, 1, 8, [.int .u64 0], true⟩ := rfl
theorem ok52 : TiOk Tryz.prog 52 ⟨.int .u64, 1, 8, [.int .u64 0], true⟩ := ⟨(by kernel_rfl : Tryz.prog.underlying 52 = _), (TiOk.of_info (z := (.int .u64 0)) (by kernel_rfl) rfl), rfl, by decide, (fun h => absurd h (by decide))⟩
theorem T54 : T 54 = some ⟨(.struct [(0, 1, false), (1, 1, false), (2, 1, false)]), 3, 40, [.slice none 0 0, .int .i64 0, .int .u64 0], false⟩ := rfl
theorem ok54 : TiOk Tryz.prog 54 ⟨(.struct [(0, 1, false), (1, 1, false), (2, 1, false)]), 3, 40, [.slice none 0 0, .int .i64 0, .int .u64 0], false⟩ := ⟨TiOk.of_struct Tryz.underlying54 (by kernel_rfl), (TiOk.of_info (z := (.agg #[.slice none 0 0, .int .i64 0, .int .u64 0])) (by kernel_rfl) rfl), rfl, by decide, (fun h => absurd h (by decide))⟩
theorem T56 : T 56 = some ⟨.oth, 1, 8, [.nilFunc], false⟩ := rfl
theorem ok56 : TiOk Tryz.prog 56 ⟨.oth, 1, 8, [.nilFunc], false⟩ := ⟨⟨_, Tryz.underlying56, rfl⟩, (TiOk.of_info (z := (.nilFunc)) (by kernel_rfl) rfl), rfl, by decide, (fun h => absurd h (by decide))⟩
theorem T71 : T 71 = some ⟨(.slice 9), 1, 24, [.slice none 0 0], false⟩ := rfl
theorem ok71 : TiOk Tryz.prog 71 ⟨(.slice 9), 1, 24, [.slice none 0 0], false⟩ := ⟨(by kernel_rfl : Tryz.prog.underlying 71 = _), (TiOk.of_info (z := (.slice none 0 0)) (by kernel_rfl) rfl), rfl, by decide, (fun h => absurd h (by decide))⟩
theorem T72 : T 72 = some ⟨(.slice 4), 1, 24, [.slice none 0 0], false⟩ := rfl
theorem ok72 : TiOk Tryz.prog 72 ⟨(.slice 4), 1, 24, [.slice none 0 0], false⟩ := ⟨(by kernel_rfl : Tryz.prog.underlying 72 = _), (TiOk.of_info (z := (.slice none 0 0)) (by kernel_rfl) rfl), rfl, by decide, (fun h => absurd h (by decide))⟩
theorem T74 : T 74 = some ⟨(.ptr 45), 1, 8, [.pointer none], false⟩ := rfl
theorem ok74 : TiOk Tryz.prog 74 ⟨(.ptr 45), 1, 8, [.pointer none], false⟩ := ⟨(by kernel_rfl : Tryz.prog.underlying 74 = _), (TiOk.of_info (z := (.pointer none)) (by kernel_rfl) rfl), rfl, by decide, (fun h => absurd h (by decide))⟩
theorem T77 : T 77 = some ⟨.oth, 1, 8, [.nilFunc], false⟩ := rfl
theorem ok77 : TiOk Tryz.prog 77 ⟨.oth, 1, 8, [.nilFunc], false⟩ := ⟨⟨_, Tryz.underlying77, rfl⟩, (TiOk.of_info (z := (.nilFunc)) (by kernel_rfl) rfl), rfl, by decide, (fun h => absurd h (by decide))⟩
theorem T99 : T 99 = some ⟨.oth, 1, 8, [.nilFunc], false⟩ := rfl
theorem ok99 : TiOk Tryz.prog 99 ⟨.oth, 1, 8, [.nilFunc], false⟩ := ⟨⟨_, Tryz.underlying99, rfl⟩, (TiOk.of_info (z := (.nilFunc)) (by kernel_rfl) rfl), rfl, by decide, (fun h => absurd h (by decide))⟩
theorem T104 : T 104 = some ⟨.int .u64, 1, 8, [.int .u64 0], true⟩ := rfl
theorem ok104 : TiOk Tryz.prog 104 ⟨.int .u64, 1, 8, [.int .u64 0], true⟩ := ⟨(by kernel_rfl : Tryz.prog.underlying 104 = _), (TiOk.of_info (z := (.int .u64 0)) (by kernel_rfl) rfl), rfl, by decide, (fun h => absurd h (by decide))⟩
theorem T117 : T 117 = some ⟨.ifc, 1, 16, [.nilIface], false⟩ := rfl
theorem ok117 : TiOk Tryz.prog 117 ⟨.ifc, 1, 16, [.nilIface], false⟩ := ⟨⟨_, Tryz.underlying117⟩, (TiOk.of_info (z := (.nilIface)) (by kernel_rfl) rfl), rfl, by decide, (fun h => absurd h (by decide))⟩
theorem T121 : T 121 = some ⟨.int .u32, 1, 4, [.int .u32 0], true⟩ := rfl
theorem ok121 : TiOk Tryz.prog 121 ⟨.int .u32, 1, 4, [.int .u32 0], true⟩ := ⟨(by kernel_rfl : Tryz.prog.underlying 121 = _), (TiOk.of_info (z := (.int .u32 0)) (by kernel_rfl) rfl), rfl, by decide, (fun h => absurd h (by decide))⟩
theorem tabOk : TabOk Tryz.prog T := by
  intro t i h
  unfold T at h
  split at h
  · cases h; exact ok3
  · cases h; exact ok4
  · cases h; exact ok5
  · cases h; exact ok9
  · cases h; exact ok22
  · cases h; exact ok24
  · cases h; exact ok33
  · cases h; exact ok36
  · cases h; exact ok38
  · cases h; exact ok45
  · cases h; exact ok48
  · cases h; exact ok51
  · cases h; exact ok52
  · cases h; exact ok54
  · cases h; exact ok56
  · cases h; exact ok71
  · cases h; exact ok72
  · cases h; exact ok74
  · cases h; exact ok77
  · cases h; exact ok99
  · cases h; exact ok104
  · cases h; exact ok117
  · cases h; exact ok121
  · cases h
set_option maxHeartbeats 1000000
def WR (f : FuncId) : Bool := f == 20 || f == 25 || f == 26 || f == 27 || f == 28 || f == 29 || f == 42 || f == 43 || f == 48 || f == 49 || f == 50 || f == 51 || f == 52 || f == 72 || f == 73 || f == 74 || f == 76 || f == 89 || f == 98 || f == 1000022
def OW (f : FuncId) : Bool := f == 89 || f == 98
def BL : FuncId → Option (Nat × TypeId × TypeId)
  | 38 => some (2, 48, 48)
  | 12 => some (9, 0, 0)
  | 29 => some (9, 0, 0)
  | _ => none
def K : FuncId → Nat → List Nat
  | 9, 0 => [3, 9, 10, 11]
  | 10, 0 => [0, 1, 5]
  | 13, 0 => [1, 4, 6, 26, 27, 28]
  | 16, 0 => [4, 5]
  | 16, 1 => [4, 5, 16, 17, 18]
  | 17, 0 => [4, 5]
  | 19, 0 => [3, 4, 13, 14, 15]
  | 20, 0 => [0]
  | 21, 0 => [0, 3, 4]
  | 25, 0 => [0, 3, 4, 5]
  | 25, 1 => [0, 3, 4]
  | 29, 0 => [0, 3, 4, 5, 999]
  | 31, 0 => [0, 5, 6, 7]
  | 33, 0 => [0, 3]
  | 35, 0 => [0, 1, 5]
  | 37, 0 => [3, 6, 7, 23, 24, 25]
  | 50, 0 => [0, 2, 3, 4, 5]
  | 51, 0 => [0, 4, 5, 6]
  | 62, 0 => [0, 1, 2, 6, 7, 8]
  | 63, 0 => [1, 2, 4, 5, 6]
  | 64, 0 => [0, 4, 5, 6, 8, 9, 10]
  | 74, 0 => [0, 3]
  | 81, 0 => [7, 8]
  | 82, 0 => [1, 4, 6, 16, 17, 18]
  | 84, 0 => [2, 3, 6, 8, 20, 21, 22]
  | 87, 0 => [1, 3]
  | 96, 0 => [0, 1, 7, 8]
  | 19, 1029 => [5, 29800]
  | 42, 1010 => [6, 0, 6, 1, 6, 8224, 1006, 100001]
  | 42, 1002 => [6, 0, 6, 1, 1006, 100001]
  | 50, 1011 => [6, 0, 6, 11360, 6, 11361, 9, 0, 9, 11408]
  | 51, 1007 => [4, 0]
  | 52, 1006 => [6, 0, 6, 6240, 6, 6241, 9, 0, 9, 6288]
  | 12, 2000 => [1]
  | 12, 2001 => [1]
  | 12, 2002 => [1]
  | 12, 2003 => [1]
  | 13, 2000 => [1]
  | 13, 2001 => [1]
  | 13, 2002 => [1]
  | 13, 2003 => [1]
  | 13, 2004 => [1]
  | 13, 2005 => [1]
  | 13, 2006 => [1]
  | 13, 2007 => [1]
  | 13, 2008 => [1]
  | 13, 2009 => [1]
  | 13, 2011 => [1]
  | 13, 2012 => [1]
  | 29, 2000 => [1]
  | 29, 2001 => [1]
  | 29, 2002 => [1]
  | 29, 2003 => [1]
  | 29, 2004 => [1]
  | 29, 2006 => [1]
  | 29, 2005 => [1]
  | 29, 2007 => [1]
  | 29, 2008 => [1]
  | 29, 2009 => [1]
  | _, _ => []
@[simp] theorem K9_0 : K 9 0 = [3, 9, 10, 11] := rfl
@[simp] theorem K10_0 : K 10 0 = [0, 1, 5] := rfl
@[simp] theorem K13_0 : K 13 0 = [1, 4, 6, 26, 27, 28] := rfl
@[simp] theorem K16_0 : K 16 0 = [4, 5] := rfl
@[simp] theorem K16_1 : K 16 1 = [4, 5, 16, 17, 18] := rfl
@[simp] theorem K17_0 : K 17 0 = [4, 5] := rfl
@[simp] theorem K19_0 : K 19 0 = [3, 4, 13, 14, 15] := rfl
@[simp] theorem K20_0 : K 20 0 = [0] := rfl
@[simp] theorem K21_0 : K 21 0 = [0, 3, 4] := rfl
@[simp] theorem K25_0 : K 25 0 = [0, 3, 4, 5] := rfl
@[simp] theorem K25_1 : K 25 1 = [0, 3, 4] := rfl
@[simp] theorem K29_0 : K 29 0 = [0, 3, 4, 5, 999] := rfl
@[simp] theorem K31_0 : K 31 0 = [0, 5, 6, 7] := rfl
@[simp] theorem K33_0 : K 33 0 = [0, 3] := rfl
@[simp] theorem K35_0 : K 35 0 = [0, 1, 5] := rfl
@[simp] theorem K37_0 : K 37 0 = [3, 6, 7, 23, 24, 25] := rfl
@[simp] theorem K50_0 : K 50 0 = [0, 2, 3, 4, 5] := rfl
@[simp] theorem K51_0 : K 51 0 = [0, 4, 5, 6] := rfl
@[simp] theorem K62_0 : K 62 0 = [0, 1, 2, 6, 7, 8] := rfl
@[simp] theorem K63_0 : K 63 0 = [1, 2, 4, 5, 6] := rfl
@[simp] theorem K64_0 : K 64 0 = [0, 4, 5, 6, 8, 9, 10] := rfl
@[simp] theorem K74_0 : K 74 0 = [0, 3] := rfl
@[simp] theorem K81_0 : K 81 0 = [7, 8] := rfl
@[simp] theorem K82_0 : K 82 0 = [1, 4, 6, 16, 17, 18] := rfl
@[simp] theorem K84_0 : K 84 0 = [2, 3, 6, 8, 20, 21, 22] := rfl
@[simp] theorem K87_0 : K 87 0 = [1, 3] := rfl
@[simp] theorem K96_0 : K 96 0 = [0, 1, 7, 8] := rfl
@[simp] theorem K3_2000 : K 3 2000 = [] := rfl
@[simp] theorem K3_2001 : K 3 2001 = [] := rfl
@[simp] theorem K3_2002 : K 3 2002 = [] := rfl
@[simp] theorem K3_2003 : K 3 2003 = [] := rfl
@[simp] theorem K3_2004 : K 3 2004 = [] := rfl
@[simp] theorem K3_2005 : K 3 2005 = [] := rfl
@[simp] theorem K3_2006 : K 3 2006 = [] := rfl
@[simp] theorem K3_2007 : K 3 2007 = [] := rfl
@[simp] theorem K3_2008 : K 3 2008 = [] := rfl
@[simp] theorem K3_2009 : K 3 2009 = [] := rfl
@[simp] theorem K3_2010 : K 3 2010 = [] := rfl
@[simp] theorem K3_2011 : K 3 2011 = [] := rfl
@[simp] theorem K3_2012 : K 3 2012 = [] := rfl
@[simp] theorem K3_2013 : K 3 2013 = [] := rfl
@[simp] theorem K3_2014 : K 3 2014 = [] := rfl
@[simp] theorem K3_2015 : K 3 2015 = [] := rfl
@[simp] theorem K3_2016 : K 3 2016 = [] := rfl
@[simp] theorem K3_2017 : K 3 2017 = [] := rfl
@[simp] theorem K3_2018 : K 3 2018 = [] := rfl
@[simp] theorem K3_2019 : K 3 2019 = [] := rfl
@[simp] theorem K3_2020 : K 3 2020 = [] := rfl
@[simp] theorem K3_2021 : K 3 2021 = [] := rfl
@[simp] theorem K3_2022 : K 3 2022 = [] := rfl
@[simp] theorem K3_2023 : K 3 2023 = [] := rfl
@[simp] theorem K3_2024 : K 3 2024 = [] := rfl
@[simp] theorem K3_2025 : K 3 2025 = [] := rfl
@[simp] theorem K3_2026 : K 3 2026 = [] := rfl
@[simp] theorem K3_2027 : K 3 2027 = [] := rfl
@[simp] theorem K3_2028 : K 3 2028 = [] := rfl
@[simp] theorem K4_2000 : K 4 2000 = [] := rfl
@[simp] theorem K4_2001 : K 4 2001 = [] := rfl
@[simp] theorem K5_2000 : K 5 2000 = [] := rfl
@[simp] theorem K5_2001 : K 5 2001 = [] := rfl
@[simp] theorem K6_2000 : K 6 2000 = [] := rfl
@[simp] theorem K6_2001 : K 6 2001 = [] := rfl
@[simp] theorem K6_2002 : K 6 2002 = [] := rfl
@[simp] theorem K6_2003 : K 6 2003 = [] := rfl
@[simp] theorem K7_2000 : K 7 2000 = [] := rfl
@[simp] theorem K7_2001 : K 7 2001 = [] := rfl
@[simp] theorem K7_2002 : K 7 2002 = [] := rfl
@[simp] theorem K7_2003 : K 7 2003 = [] := rfl
@[simp] theorem K7_2004 : K 7 2004 = [] := rfl
@[simp] theorem K7_2005 : K 7 2005 = [] := rfl
@[simp] theorem K7_2006 : K 7 2006 = [] := rfl
@[simp] theorem K7_2007 : K 7 2007 = [] := rfl
@[simp] theorem K8_2000 : K 8 2000 = [] := rfl
@[simp] theorem K8_2001 : K 8 2001 = [] := rfl
@[simp] theorem K8_2002 : K 8 2002 = [] := rfl
@[simp] theorem K8_2003 : K 8 2003 = [] := rfl
@[simp] theorem K9_2000 : K 9 2000 = [] := rfl
@[simp] theorem K9_2001 : K 9 2001 = [] := rfl
@[simp] theorem K9_2002 : K 9 2002 = [] := rfl
@[simp] theorem K9_2003 : K 9 2003 = [] := rfl
@[simp] theorem K9_2004 : K 9 2004 = [] := rfl
@[simp] theorem K9_2005 : K 9 2005 = [] := rfl
@[simp] theorem K9_2006 : K 9 2006 = [] := rfl
@[simp] theorem K9_2007 : K 9 2007 = [] := rfl
@[simp] theorem K9_2008 : K 9 2008 = [] := rfl
@[simp] theorem K9_2009 : K 9 2009 = [] := rfl
@[simp] theorem K9_2010 : K 9 2010 = [] := rfl
@[simp] theorem K9_2011 : K 9 2011 = [] := rfl
@[simp] theorem K9_2012 : K 9 2012 = [] := rfl
@[simp] theorem K10_2000 : K 10 2000 = [] := rfl
@[simp] theorem K10_2001 : K 10 2001 = [] := rfl
@[simp] theorem K10_2002 : K 10 2002 = [] := rfl
@[simp] theorem K10_2003 : K 10 2003 = [] := rfl
@[simp] theorem K10_2004 : K 10 2004 = [] := rfl
@[simp] theorem K10_2007 : K 10 2007 = [] := rfl
@[simp] theorem K10_2005 : K 10 2005 = [] := rfl
@[simp] theorem K10_2008 : K 10 2008 = [] := rfl
@[simp] theorem K11_2000 : K 11 2000 = [] := rfl
@[simp] theorem K11_2001 : K 11 2001 = [] := rfl
@[simp] theorem K11_2002 : K 11 2002 = [] := rfl
@[simp] theorem K11_2003 : K 11 2003 = [] := rfl
@[simp] theorem K11_2004 : K 11 2004 = [] := rfl
@[simp] theorem K11_2005 : K 11 2005 = [] := rfl
@[simp] theorem K11_2006 : K 11 2006 = [] := rfl
@[simp] theorem K12_2000 : K 12 2000 = [1] := rfl
@[simp] theorem K12_2001 : K 12 2001 = [1] := rfl
@[simp] theorem K12_2002 : K 12 2002 = [1] := rfl
@[simp] theorem K12_2003 : K 12 2003 = [1] := rfl
@[simp] theorem K13_2000 : K 13 2000 = [1] := rfl
@[simp] theorem K13_2001 : K 13 2001 = [1] := rfl
@[simp] theorem K13_2002 : K 13 2002 = [1] := rfl
@[simp] theorem K13_2003 : K 13 2003 = [1] := rfl
@[simp] theorem K13_2004 : K 13 2004 = [1] := rfl
@[simp] theorem K13_2005 : K 13 2005 = [1] := rfl
@[simp] theorem K13_2006 : K 13 2006 = [1] := rfl
@[simp] theorem K13_2007 : K 13 2007 = [1] := rfl
@[simp] theorem K13_2008 : K 13 2008 = [1] := rfl
@[simp] theorem K13_2009 : K 13 2009 = [1] := rfl
@[simp] theorem K13_2011 : K 13 2011 = [1] := rfl
@[simp] theorem K13_2012 : K 13 2012 = [1] := rfl
@[simp] theorem K14_2000 : K 14 2000 = [] := rfl
@[simp] theorem K14_2001 : K 14 2001 = [] := rfl
@[simp] theorem K14_2002 : K 14 2002 = [] := rfl
@[simp] theorem K14_2003 : K 14 2003 = [] := rfl
@[simp] theorem K15_2000 : K 15 2000 = [] := rfl
@[simp] theorem K15_2001 : K 15 2001 = [] := rfl
@[simp] theorem K16_2000 : K 16 2000 = [] := rfl
@[simp] theorem K16_2001 : K 16 2001 = [] := rfl
@[simp] theorem K16_2002 : K 16 2002 = [] := rfl
@[simp] theorem K16_2003 : K 16 2003 = [] := rfl
@[simp] theorem K16_2004 : K 16 2004 = [] := rfl
@[simp] theorem K16_2005 : K 16 2005 = [] := rfl
@[simp] theorem K16_2006 : K 16 2006 = [] := rfl
@[simp] theorem K16_2007 : K 16 2007 = [] := rfl
@[simp] theorem K16_2008 : K 16 2008 = [] := rfl
@[simp] theorem K16_2009 : K 16 2009 = [] := rfl
@[simp] theorem K16_2011 : K 16 2011 = [] := rfl
@[simp] theorem K16_2012 : K 16 2012 = [] := rfl
@[simp] theorem K16_2013 : K 16 2013 = [] := rfl
@[simp] theorem K16_2014 : K 16 2014 = [] := rfl
@[simp] theorem K16_2015 : K 16 2015 = [] := rfl
@[simp] theorem K17_2000 : K 17 2000 = [] := rfl
@[simp] theorem K17_2001 : K 17 2001 = [] := rfl
@[simp] theorem K17_2002 : K 17 2002 = [] := rfl
@[simp] theorem K17_2003 : K 17 2003 = [] := rfl
@[simp] theorem K17_2004 : K 17 2004 = [] := rfl
@[simp] theorem K17_2005 : K 17 2005 = [] := rfl
@[simp] theorem K17_2007 : K 17 2007 = [] := rfl
@[simp] theorem K17_2008 : K 17 2008 = [] := rfl
@[simp] theorem K17_2009 : K 17 2009 = [] := rfl
@[simp] theorem K17_2010 : K 17 2010 = [] := rfl
@[simp] theorem K17_2011 : K 17 2011 = [] := rfl
@[simp] theorem K17_2012 : K 17 2012 = [] := rfl
@[simp] theorem K17_2006 : K 17 2006 = [] := rfl
@[simp] theorem K17_2013 : K 17 2013 = [] := rfl
@[simp] theorem K18_2000 : K 18 2000 = [] := rfl
@[simp] theorem K18_2001 : K 18 2001 = [] := rfl
@[simp] theorem K18_2002 : K 18 2002 = [] := rfl
@[simp] theorem K19_2000 : K 19 2000 = [] := rfl
@[simp] theorem K19_2001 : K 19 2001 = [] := rfl
@[simp] theorem K19_2002 : K 19 2002 = [] := rfl
@[simp] theorem K19_2003 : K 19 2003 = [] := rfl
@[simp] theorem K19_2004 : K 19 2004 = [] := rfl
@[simp] theorem K19_2005 : K 19 2005 = [] := rfl
@[simp] theorem K19_2006 : K 19 2006 = [] := rfl
@[simp] theorem K19_2008 : K 19 2008 = [] := rfl
@[simp] theorem K19_2009 : K 19 2009 = [] := rfl
@[simp] theorem K19_2010 : K 19 2010 = [] := rfl
@[simp] theorem K19_2011 : K 19 2011 = [] := rfl
@[simp] theorem K19_2012 : K 19 2012 = [] := rfl
@[simp] theorem K19_2013 : K 19 2013 = [] := rfl
@[simp] theorem K19_2014 : K 19 2014 = [] := rfl
@[simp] theorem K19_2015 : K 19 2015 = [] := rfl
@[simp] theorem K19_2016 : K 19 2016 = [] := rfl
@[simp] theorem K19_2017 : K 19 2017 = [] := rfl
@[simp] theorem K19_2018 : K 19 2018 = [] := rfl
@[simp] theorem K19_2019 : K 19 2019 = [] := rfl
@[simp] theorem K19_2020 : K 19 2020 = [] := rfl
@[simp] theorem K19_2021 : K 19 2021 = [] := rfl
@[simp] theorem K19_2022 : K 19 2022 = [] := rfl
@[simp] theorem K19_2023 : K 19 2023 = [] := rfl
@[simp] theorem K19_2025 : K 19 2025 = [] := rfl
@[simp] theorem K19_2027 : K 19 2027 = [] := rfl
@[simp] theorem K19_2030 : K 19 2030 = [] := rfl
@[simp] theorem K19_2031 : K 19 2031 = [] := rfl
@[simp] theorem K20_2000 : K 20 2000 = [] := rfl
@[simp] theorem K20_2001 : K 20 2001 = [] := rfl
@[simp] theorem K20_2002 : K 20 2002 = [] := rfl
@[simp] theorem K20_2003 : K 20 2003 = [] := rfl
@[simp] theorem K20_2004 : K 20 2004 = [] := rfl
@[simp] theorem K20_2005 : K 20 2005 = [] := rfl
@[simp] theorem K20_2006 : K 20 2006 = [] := rfl
@[simp] theorem K20_2007 : K 20 2007 = [] := rfl
@[simp] theorem K20_2008 : K 20 2008 = [] := rfl
@[simp] theorem K21_2000 : K 21 2000 = [] := rfl
@[simp] theorem K21_2001 : K 21 2001 = [] := rfl
@[simp] theorem K21_2002 : K 21 2002 = [] := rfl
@[simp] theorem K21_2003 : K 21 2003 = [] := rfl
@[simp] theorem K21_2004 : K 21 2004 = [] := rfl
@[simp] theorem K21_2005 : K 21 2005 = [] := rfl
@[simp] theorem K21_2007 : K 21 2007 = [] := rfl
@[simp] theorem K21_2008 : K 21 2008 = [] := rfl
@[simp] theorem K21_2009 : K 21 2009 = [] := rfl
@[simp] theorem K21_2010 : K 21 2010 = [] := rfl
@[simp] theorem K21_2006 : K 21 2006 = [] := rfl
@[simp] theorem K21_2011 : K 21 2011 = [] := rfl
@[simp] theorem K22_2000 : K 22 2000 = [] := rfl
@[simp] theorem K22_2001 : K 22 2001 = [] := rfl
@[simp] theorem K22_2002 : K 22 2002 = [] := rfl
@[simp] theorem K22_2003 : K 22 2003 = [] := rfl
@[simp] theorem K22_2004 : K 22 2004 = [] := rfl
@[simp] theorem K22_2005 : K 22 2005 = [] := rfl
@[simp] theorem K22_2006 : K 22 2006 = [] := rfl
@[simp] theorem K22_2007 : K 22 2007 = [] := rfl
@[simp] theorem K22_2009 : K 22 2009 = [] := rfl
@[simp] theorem K22_2010 : K 22 2010 = [] := rfl
@[simp] theorem K22_2011 : K 22 2011 = [] := rfl
@[simp] theorem K22_2012 : K 22 2012 = [] := rfl
@[simp] theorem K22_2013 : K 22 2013 = [] := rfl
@[simp] theorem K22_2014 : K 22 2014 = [] := rfl
@[simp] theorem K22_2015 : K 22 2015 = [] := rfl
@[simp] theorem K22_2016 : K 22 2016 = [] := rfl
@[simp] theorem K22_2017 : K 22 2017 = [] := rfl
@[simp] theorem K22_2018 : K 22 2018 = [] := rfl
@[simp] theorem K22_2019 : K 22 2019 = [] := rfl
@[simp] theorem K22_2020 : K 22 2020 = [] := rfl
@[simp] theorem K23_2000 : K 23 2000 = [] := rfl
@[simp] theorem K23_2001 : K 23 2001 = [] := rfl
@[simp] theorem K23_2002 : K 23 2002 = [] := rfl
@[simp] theorem K23_2003 : K 23 2003 = [] := rfl
@[simp] theorem K23_2004 : K 23 2004 = [] := rfl
@[simp] theorem K23_2005 : K 23 2005 = [] := rfl
@[simp] theorem K24_2000 : K 24 2000 = [] := rfl
@[simp] theorem K24_2001 : K 24 2001 = [] := rfl
@[simp] theorem K24_2002 : K 24 2002 = [] := rfl
@[simp] theorem K24_2003 : K 24 2003 = [] := rfl
@[simp] theorem K24_2004 : K 24 2004 = [] := rfl
@[simp] theorem K24_2005 : K 24 2005 = [] := rfl
@[simp] theorem K25_2000 : K 25 2000 = [] := rfl
@[simp] theorem K25_2001 : K 25 2001 = [] := rfl
@[simp] theorem K25_2002 : K 25 2002 = [] := rfl
@[simp] theorem K25_2003 : K 25 2003 = [] := rfl
@[simp] theorem K25_2004 : K 25 2004 = [] := rfl
@[simp] theorem K25_2008 : K 25 2008 = [] := rfl
@[simp] theorem K25_2009 : K 25 2009 = [] := rfl
@[simp] theorem K25_2010 : K 25 2010 = [] := rfl
@[simp] theorem K25_2011 : K 25 2011 = [] := rfl
@[simp] theorem K25_2012 : K 25 2012 = [] := rfl
@[simp] theorem K25_2013 : K 25 2013 = [] := rfl
@[simp] theorem K25_2014 : K 25 2014 = [] := rfl
@[simp] theorem K25_2015 : K 25 2015 = [] := rfl
@[simp] theorem K25_2006 : K 25 2006 = [] := rfl
@[simp] theorem K25_2007 : K 25 2007 = [] := rfl
@[simp] theorem K25_2005 : K 25 2005 = [] := rfl
@[simp] theorem K25_2016 : K 25 2016 = [] := rfl
@[simp] theorem K25_2017 : K 25 2017 = [] := rfl
@[simp] theorem K25_2018 : K 25 2018 = [] := rfl
@[simp] theorem K25_2019 : K 25 2019 = [] := rfl
@[simp] theorem K26_2000 : K 26 2000 = [] := rfl
@[simp] theorem K26_2001 : K 26 2001 = [] := rfl
@[simp] theorem K27_2000 : K 27 2000 = [] := rfl
@[simp] theorem K27_2001 : K 27 2001 = [] := rfl
@[simp] theorem K27_2002 : K 27 2002 = [] := rfl
@[simp] theorem K27_2003 : K 27 2003 = [] := rfl
@[simp] theorem K27_2004 : K 27 2004 = [] := rfl
@[simp] theorem K27_2005 : K 27 2005 = [] := rfl
@[simp] theorem K27_2006 : K 27 2006 = [] := rfl
@[simp] theorem K27_2008 : K 27 2008 = [] := rfl
@[simp] theorem K28_2000 : K 28 2000 = [] := rfl
@[simp] theorem K28_2001 : K 28 2001 = [] := rfl
@[simp] theorem K28_2002 : K 28 2002 = [] := rfl
@[simp] theorem K28_2003 : K 28 2003 = [] := rfl
@[simp] theorem K28_2004 : K 28 2004 = [] := rfl
@[simp] theorem K28_2005 : K 28 2005 = [] := rfl
@[simp] theorem K28_2006 : K 28 2006 = [] := rfl
@[simp] theorem K28_2007 : K 28 2007 = [] := rfl
@[simp] theorem K28_2008 : K 28 2008 = [] := rfl
@[simp] theorem K28_2009 : K 28 2009 = [] := rfl
@[simp] theorem K28_2010 : K 28 2010 = [] := rfl
@[simp] theorem K29_2000 : K 29 2000 = [1] := rfl
@[simp] theorem K29_2001 : K 29 2001 = [1] := rfl
@[simp] theorem K29_2002 : K 29 2002 = [1] := rfl
@[simp] theorem K29_2003 : K 29 2003 = [1] := rfl
@[simp] theorem K29_2004 : K 29 2004 = [1] := rfl
@[simp] theorem K29_2006 : K 29 2006 = [1] := rfl
@[simp] theorem K29_2005 : K 29 2005 = [1] := rfl
@[simp] theorem K29_2007 : K 29 2007 = [1] := rfl
@[simp] theorem K29_2008 : K 29 2008 = [1] := rfl
@[simp] theorem K29_2009 : K 29 2009 = [1] := rfl
@[simp] theorem K30_2000 : K 30 2000 = [] := rfl
@[simp] theorem K30_2001 : K 30 2001 = [] := rfl
@[simp] theorem K31_2000 : K 31 2000 = [] := rfl
@[simp] theorem K31_2001 : K 31 2001 = [] := rfl
@[simp] theorem K31_2002 : K 31 2002 = [] := rfl
@[simp] theorem K31_2003 : K 31 2003 = [] := rfl
@[simp] theorem K31_2005 : K 31 2005 = [] := rfl
@[simp] theorem K31_2006 : K 31 2006 = [] := rfl
@[simp] theorem K31_2007 : K 31 2007 = [] := rfl
@[simp] theorem K32_2000 : K 32 2000 = [] := rfl
@[simp] theorem K32_2001 : K 32 2001 = [] := rfl
@[simp] theorem K32_2002 : K 32 2002 = [] := rfl
@[simp] theorem K32_2003 : K 32 2003 = [] := rfl
@[simp] theorem K32_2004 : K 32 2004 = [] := rfl
@[simp] theorem K32_2005 : K 32 2005 = [] := rfl
@[simp] theorem K32_2006 : K 32 2006 = [] := rfl
@[simp] theorem K32_2007 : K 32 2007 = [] := rfl
@[simp] theorem K32_2009 : K 32 2009 = [] := rfl
@[simp] theorem K32_2011 : K 32 2011 = [] := rfl
@[simp] theorem K33_2000 : K 33 2000 = [] := rfl
@[simp] theorem K33_2001 : K 33 2001 = [] := rfl
@[simp] theorem K33_2002 : K 33 2002 = [] := rfl
@[simp] theorem K33_2005 : K 33 2005 = [] := rfl
@[simp] theorem K33_2003 : K 33 2003 = [] := rfl
@[simp] theorem K33_2006 : K 33 2006 = [] := rfl
@[simp] theorem K34_2000 : K 34 2000 = [] := rfl
@[simp] theorem K34_2001 : K 34 2001 = [] := rfl
@[simp] theorem K34_2002 : K 34 2002 = [] := rfl
@[simp] theorem K34_2003 : K 34 2003 = [] := rfl
@[simp] theorem K34_2004 : K 34 2004 = [] := rfl
@[simp] theorem K34_2005 : K 34 2005 = [] := rfl
@[simp] theorem K34_2006 : K 34 2006 = [] := rfl
@[simp] theorem K34_2007 : K 34 2007 = [] := rfl
@[simp] theorem K34_2009 : K 34 2009 = [] := rfl
@[simp] theorem K34_2010 : K 34 2010 = [] := rfl
@[simp] theorem K34_2011 : K 34 2011 = [] := rfl
@[simp] theorem K34_2012 : K 34 2012 = [] := rfl
@[simp] theorem K34_2013 : K 34 2013 = [] := rfl
@[simp] theorem K34_2014 : K 34 2014 = [] := rfl
@[simp] theorem K34_2015 : K 34 2015 = [] := rfl
@[simp] theorem K34_2016 : K 34 2016 = [] := rfl
@[simp] theorem K34_2017 : K 34 2017 = [] := rfl
@[simp] theorem K34_2018 : K 34 2018 = [] := rfl
@[simp] theorem K35_2000 : K 35 2000 = [] := rfl
@[simp] theorem K35_2001 : K 35 2001 = [] := rfl
@[simp] theorem K35_2002 : K 35 2002 = [] := rfl
@[simp] theorem K35_2003 : K 35 2003 = [] := rfl
@[simp] theorem K35_2004 : K 35 2004 = [] := rfl
@[simp] theorem K35_2007 : K 35 2007 = [] := rfl
@[simp] theorem K35_2005 : K 35 2005 = [] := rfl
@[simp] theorem K35_2008 : K 35 2008 = [] := rfl
@[simp] theorem K36_2000 : K 36 2000 = [] := rfl
@[simp] theorem K36_2001 : K 36 2001 = [] := rfl
@[simp] theorem K36_2002 : K 36 2002 = [] := rfl
@[simp] theorem K36_2003 : K 36 2003 = [] := rfl
@[simp] theorem K37_2000 : K 37 2000 = [] := rfl
@[simp] theorem K37_2001 : K 37 2001 = [] := rfl
@[simp] theorem K37_2002 : K 37 2002 = [] := rfl
@[simp] theorem K37_2003 : K 37 2003 = [] := rfl
@[simp] theorem K37_2004 : K 37 2004 = [] := rfl
@[simp] theorem K37_2005 : K 37 2005 = [] := rfl
@[simp] theorem K37_2006 : K 37 2006 = [] := rfl
@[simp] theorem K37_2007 : K 37 2007 = [] := rfl
@[simp] theorem K37_2008 : K 37 2008 = [] := rfl
@[simp] theorem K37_2009 : K 37 2009 = [] := rfl
@[simp] theorem K37_2010 : K 37 2010 = [] := rfl
@[simp] theorem K37_2012 : K 37 2012 = [] := rfl
@[simp] theorem K37_2013 : K 37 2013 = [] := rfl
@[simp] theorem K37_2014 : K 37 2014 = [] := rfl
@[simp] theorem K37_2015 : K 37 2015 = [] := rfl
@[simp] theorem K37_2016 : K 37 2016 = [] := rfl
@[simp] theorem K37_2017 : K 37 2017 = [] := rfl
@[simp] theorem K37_2018 : K 37 2018 = [] := rfl
@[simp] theorem K37_2019 : K 37 2019 = [] := rfl
@[simp] theorem K37_2020 : K 37 2020 = [] := rfl
@[simp] theorem K37_2021 : K 37 2021 = [] := rfl
@[simp] theorem K37_2022 : K 37 2022 = [] := rfl
@[simp] theorem K37_2023 : K 37 2023 = [] := rfl
@[simp] theorem K37_2024 : K 37 2024 = [] := rfl
@[simp] theorem K39_2000 : K 39 2000 = [] := rfl
@[simp] theorem K39_2001 : K 39 2001 = [] := rfl
@[simp] theorem K39_2002 : K 39 2002 = [] := rfl
@[simp] theorem K39_2004 : K 39 2004 = [] := rfl
@[simp] theorem K39_2005 : K 39 2005 = [] := rfl
@[simp] theorem K39_2006 : K 39 2006 = [] := rfl
@[simp] theorem K39_2008 : K 39 2008 = [] := rfl
@[simp] theorem K39_2009 : K 39 2009 = [] := rfl
@[simp] theorem K39_2010 : K 39 2010 = [] := rfl
@[simp] theorem K41_2000 : K 41 2000 = [] := rfl
@[simp] theorem K41_2001 : K 41 2001 = [] := rfl
@[simp] theorem K42_2000 : K 42 2000 = [] := rfl
@[simp] theorem K42_2001 : K 42 2001 = [] := rfl
@[simp] theorem K42_2003 : K 42 2003 = [] := rfl
@[simp] theorem K42_2004 : K 42 2004 = [] := rfl
@[simp] theorem K42_2005 : K 42 2005 = [] := rfl
@[simp] theorem K42_2006 : K 42 2006 = [] := rfl
@[simp] theorem K42_2007 : K 42 2007 = [] := rfl
@[simp] theorem K42_2008 : K 42 2008 = [] := rfl
@[simp] theorem K42_2009 : K 42 2009 = [] := rfl
@[simp] theorem K42_2011 : K 42 2011 = [] := rfl
@[simp] theorem K42_2012 : K 42 2012 = [] := rfl
@[simp] theorem K42_2013 : K 42 2013 = [] := rfl
@[simp] theorem K42_2014 : K 42 2014 = [] := rfl
@[simp] theorem K42_2015 : K 42 2015 = [] := rfl
@[simp] theorem K42_2017 : K 42 2017 = [] := rfl
@[simp] theorem K43_2000 : K 43 2000 = [] := rfl
@[simp] theorem K43_2001 : K 43 2001 = [] := rfl
@[simp] theorem K43_2002 : K 43 2002 = [] := rfl
@[simp] theorem K43_2003 : K 43 2003 = [] := rfl
@[simp] theorem K44_2000 : K 44 2000 = [] := rfl
@[simp] theorem K44_2001 : K 44 2001 = [] := rfl
@[simp] theorem K44_2002 : K 44 2002 = [] := rfl
@[simp] theorem K44_2003 : K 44 2003 = [] := rfl
@[simp] theorem K44_2004 : K 44 2004 = [] := rfl
@[simp] theorem K44_2005 : K 44 2005 = [] := rfl
@[simp] theorem K44_2006 : K 44 2006 = [] := rfl
@[simp] theorem K44_2007 : K 44 2007 = [] := rfl
@[simp] theorem K44_2008 : K 44 2008 = [] := rfl
@[simp] theorem K45_2000 : K 45 2000 = [] := rfl
@[simp] theorem K45_2001 : K 45 2001 = [] := rfl
@[simp] theorem K45_2002 : K 45 2002 = [] := rfl
@[simp] theorem K45_2003 : K 45 2003 = [] := rfl
@[simp] theorem K45_2004 : K 45 2004 = [] := rfl
@[simp] theorem K46_2000 : K 46 2000 = [] := rfl
@[simp] theorem K46_2001 : K 46 2001 = [] := rfl
@[simp] theorem K46_2002 : K 46 2002 = [] := rfl
@[simp] theorem K46_2003 : K 46 2003 = [] := rfl
@[simp] theorem K46_2004 : K 46 2004 = [] := rfl
@[simp] theorem K46_2005 : K 46 2005 = [] := rfl
@[simp] theorem K46_2006 : K 46 2006 = [] := rfl
@[simp] theorem K47_2000 : K 47 2000 = [] := rfl
@[simp] theorem K47_2001 : K 47 2001 = [] := rfl
@[simp] theorem K48_2000 : K 48 2000 = [] := rfl
@[simp] theorem K48_2001 : K 48 2001 = [] := rfl
@[simp] theorem K48_2002 : K 48 2002 = [] := rfl
@[simp] theorem K48_2003 : K 48 2003 = [] := rfl
@[simp] theorem K48_2004 : K 48 2004 = [] := rfl
@[simp] theorem K48_2005 : K 48 2005 = [] := rfl
@[simp] theorem K48_2006 : K 48 2006 = [] := rfl
@[simp] theorem K49_2000 : K 49 2000 = [] := rfl
@[simp] theorem K49_2001 : K 49 2001 = [] := rfl
@[simp] theorem K50_2000 : K 50 2000 = [] := rfl
@[simp] theorem K50_2001 : K 50 2001 = [] := rfl
@[simp] theorem K50_2002 : K 50 2002 = [] := rfl
@[simp] theorem K50_2003 : K 50 2003 = [] := rfl
@[simp] theorem K50_2004 : K 50 2004 = [] := rfl
@[simp] theorem K50_2006 : K 50 2006 = [] := rfl
@[simp] theorem K50_2007 : K 50 2007 = [] := rfl
@[simp] theorem K50_2008 : K 50 2008 = [] := rfl
@[simp] theorem K50_2009 : K 50 2009 = [] := rfl
@[simp] theorem K50_2005 : K 50 2005 = [] := rfl
@[simp] theorem K50_2010 : K 50 2010 = [] := rfl
@[simp] theorem K50_2012 : K 50 2012 = [] := rfl
@[simp] theorem K50_2013 : K 50 2013 = [] := rfl
@[simp] theorem K50_2014 : K 50 2014 = [] := rfl
@[simp] theorem K51_2000 : K 51 2000 = [] := rfl
@[simp] theorem K51_2001 : K 51 2001 = [] := rfl
@[simp] theorem K51_2002 : K 51 2002 = [] := rfl
@[simp] theorem K51_2003 : K 51 2003 = [] := rfl
@[simp] theorem K51_2005 : K 51 2005 = [] := rfl
@[simp] theorem K51_2006 : K 51 2006 = [] := rfl
@[simp] theorem K51_2008 : K 51 2008 = [] := rfl
@[simp] theorem K51_2009 : K 51 2009 = [] := rfl
@[simp] theorem K51_2010 : K 51 2010 = [] := rfl
@[simp] theorem K51_2004 : K 51 2004 = [] := rfl
@[simp] theorem K51_2011 : K 51 2011 = [] := rfl
@[simp] theorem K51_2012 : K 51 2012 = [] := rfl
@[simp] theorem K51_2013 : K 51 2013 = [] := rfl
@[simp] theorem K52_2000 : K 52 2000 = [] := rfl
@[simp] theorem K52_2001 : K 52 2001 = [] := rfl
@[simp] theorem K52_2002 : K 52 2002 = [] := rfl
@[simp] theorem K52_2003 : K 52 2003 = [] := rfl
@[simp] theorem K52_2004 : K 52 2004 = [] := rfl
@[simp] theorem K52_2005 : K 52 2005 = [] := rfl
@[simp] theorem K52_2007 : K 52 2007 = [] := rfl
@[simp] theorem K52_2008 : K 52 2008 = [] := rfl
@[simp] theorem K52_2009 : K 52 2009 = [] := rfl
@[simp] theorem K53_2000 : K 53 2000 = [] := rfl
@[simp] theorem K53_2001 : K 53 2001 = [] := rfl
@[simp] theorem K54_2000 : K 54 2000 = [] := rfl
@[simp] theorem K54_2001 : K 54 2001 = [] := rfl
@[simp] theorem K55_2000 : K 55 2000 = [] := rfl
@[simp] theorem K56_2000 : K 56 2000 = [] := rfl
@[simp] theorem K56_2001 : K 56 2001 = [] := rfl
@[simp] theorem K57_2000 : K 57 2000 = [] := rfl
@[simp] theorem K57_2001 : K 57 2001 = [] := rfl
@[simp] theorem K58_2000 : K 58 2000 = [] := rfl
@[simp] theorem K58_2001 : K 58 2001 = [] := rfl
@[simp] theorem K58_2002 : K 58 2002 = [] := rfl
@[simp] theorem K58_2003 : K 58 2003 = [] := rfl
@[simp] theorem K59_2000 : K 59 2000 = [] := rfl
@[simp] theorem K59_2001 : K 59 2001 = [] := rfl
@[simp] theorem K60_2000 : K 60 2000 = [] := rfl
@[simp] theorem K60_2001 : K 60 2001 = [] := rfl
@[simp] theorem K61_2000 : K 61 2000 = [] := rfl
@[simp] theorem K62_2000 : K 62 2000 = [] := rfl
@[simp] theorem K62_2001 : K 62 2001 = [] := rfl
@[simp] theorem K62_2002 : K 62 2002 = [] := rfl
@[simp] theorem K62_2003 : K 62 2003 = [] := rfl
@[simp] theorem K62_2005 : K 62 2005 = [] := rfl
@[simp] theorem K62_2004 : K 62 2004 = [] := rfl
@[simp] theorem K62_2006 : K 62 2006 = [] := rfl
@[simp] theorem K63_2000 : K 63 2000 = [] := rfl
@[simp] theorem K63_2001 : K 63 2001 = [] := rfl
@[simp] theorem K63_2002 : K 63 2002 = [] := rfl
@[simp] theorem K63_2003 : K 63 2003 = [] := rfl
@[simp] theorem K63_2006 : K 63 2006 = [] := rfl
@[simp] theorem K63_2007 : K 63 2007 = [] := rfl
@[simp] theorem K63_2008 : K 63 2008 = [] := rfl
@[simp] theorem K63_2005 : K 63 2005 = [] := rfl
@[simp] theorem K63_2004 : K 63 2004 = [] := rfl
@[simp] theorem K63_2009 : K 63 2009 = [] := rfl
@[simp] theorem K64_2000 : K 64 2000 = [] := rfl
@[simp] theorem K64_2001 : K 64 2001 = [] := rfl
@[simp] theorem K64_2002 : K 64 2002 = [] := rfl
@[simp] theorem K64_2003 : K 64 2003 = [] := rfl
@[simp] theorem K64_2004 : K 64 2004 = [] := rfl
@[simp] theorem K64_2006 : K 64 2006 = [] := rfl
@[simp] theorem K64_2007 : K 64 2007 = [] := rfl
@[simp] theorem K64_2009 : K 64 2009 = [] := rfl
@[simp] theorem K64_2005 : K 64 2005 = [] := rfl
@[simp] theorem K64_2010 : K 64 2010 = [] := rfl
@[simp] theorem K69_2000 : K 69 2000 = [] := rfl
@[simp] theorem K69_2001 : K 69 2001 = [] := rfl
@[simp] theorem K70_2000 : K 70 2000 = [] := rfl
@[simp] theorem K70_2001 : K 70 2001 = [] := rfl
@[simp] theorem K70_2002 : K 70 2002 = [] := rfl
@[simp] theorem K70_2003 : K 70 2003 = [] := rfl
@[simp] theorem K70_2004 : K 70 2004 = [] := rfl
@[simp] theorem K70_2005 : K 70 2005 = [] := rfl
@[simp] theorem K70_2006 : K 70 2006 = [] := rfl
@[simp] theorem K70_2007 : K 70 2007 = [] := rfl
@[simp] theorem K70_2008 : K 70 2008 = [] := rfl
@[simp] theorem K72_2000 : K 72 2000 = [] := rfl
@[simp] theorem K72_2001 : K 72 2001 = [] := rfl
@[simp] theorem K72_2002 : K 72 2002 = [] := rfl
@[simp] theorem K72_2003 : K 72 2003 = [] := rfl
@[simp] theorem K72_2004 : K 72 2004 = [] := rfl
@[simp] theorem K73_2000 : K 73 2000 = [] := rfl
@[simp] theorem K73_2001 : K 73 2001 = [] := rfl
@[simp] theorem K74_2000 : K 74 2000 = [] := rfl
@[simp] theorem K74_2001 : K 74 2001 = [] := rfl
@[simp] theorem K74_2002 : K 74 2002 = [] := rfl
@[simp] theorem K74_2003 : K 74 2003 = [] := rfl
@[simp] theorem K74_2004 : K 74 2004 = [] := rfl
@[simp] theorem K74_2005 : K 74 2005 = [] := rfl
@[simp] theorem K74_2006 : K 74 2006 = [] := rfl
@[simp] theorem K74_2007 : K 74 2007 = [] := rfl
@[simp] theorem K75_2000 : K 75 2000 = [] := rfl
@[simp] theorem K75_2001 : K 75 2001 = [] := rfl
@[simp] theorem K76_2000 : K 76 2000 = [] := rfl
@[simp] theorem K76_2001 : K 76 2001 = [] := rfl
@[simp] theorem K76_2004 : K 76 2004 = [] := rfl
@[simp] theorem K76_2005 : K 76 2005 = [] := rfl
@[simp] theorem K76_2007 : K 76 2007 = [] := rfl
@[simp] theorem K76_2008 : K 76 2008 = [] := rfl
@[simp] theorem K77_2000 : K 77 2000 = [] := rfl
@[simp] theorem K77_2001 : K 77 2001 = [] := rfl
@[simp] theorem K78_2000 : K 78 2000 = [] := rfl
@[simp] theorem K78_2001 : K 78 2001 = [] := rfl
@[simp] theorem K79_2000 : K 79 2000 = [] := rfl
@[simp] theorem K79_2001 : K 79 2001 = [] := rfl
@[simp] theorem K80_2000 : K 80 2000 = [] := rfl
@[simp] theorem K80_2001 : K 80 2001 = [] := rfl
@[simp] theorem K80_2002 : K 80 2002 = [] := rfl
@[simp] theorem K80_2003 : K 80 2003 = [] := rfl
@[simp] theorem K81_2000 : K 81 2000 = [] := rfl
@[simp] theorem K81_2001 : K 81 2001 = [] := rfl
@[simp] theorem K81_2002 : K 81 2002 = [] := rfl
@[simp] theorem K81_2003 : K 81 2003 = [] := rfl
@[simp] theorem K81_2004 : K 81 2004 = [] := rfl
@[simp] theorem K81_2005 : K 81 2005 = [] := rfl
@[simp] theorem K81_2006 : K 81 2006 = [] := rfl
@[simp] theorem K81_2007 : K 81 2007 = [] := rfl
@[simp] theorem K81_2008 : K 81 2008 = [] := rfl
@[simp] theorem K81_2010 : K 81 2010 = [] := rfl
@[simp] theorem K82_2000 : K 82 2000 = [] := rfl
@[simp] theorem K82_2001 : K 82 2001 = [] := rfl
@[simp] theorem K82_2002 : K 82 2002 = [] := rfl
@[simp] theorem K82_2003 : K 82 2003 = [] := rfl
@[simp] theorem K82_2004 : K 82 2004 = [] := rfl
@[simp] theorem K82_2005 : K 82 2005 = [] := rfl
@[simp] theorem K82_2006 : K 82 2006 = [] := rfl
@[simp] theorem K82_2007 : K 82 2007 = [] := rfl
@[simp] theorem K82_2009 : K 82 2009 = [] := rfl
@[simp] theorem K82_2010 : K 82 2010 = [] := rfl
@[simp] theorem K83_2000 : K 83 2000 = [] := rfl
@[simp] theorem K83_2001 : K 83 2001 = [] := rfl
@[simp] theorem K83_2002 : K 83 2002 = [] := rfl
@[simp] theorem K83_2003 : K 83 2003 = [] := rfl
@[simp] theorem K84_2000 : K 84 2000 = [] := rfl
@[simp] theorem K84_2001 : K 84 2001 = [] := rfl
@[simp] theorem K84_2002 : K 84 2002 = [] := rfl
@[simp] theorem K84_2003 : K 84 2003 = [] := rfl
@[simp] theorem K84_2004 : K 84 2004 = [] := rfl
@[simp] theorem K84_2005 : K 84 2005 = [] := rfl
@[simp] theorem K84_2006 : K 84 2006 = [] := rfl
@[simp] theorem K84_2008 : K 84 2008 = [] := rfl
@[simp] theorem K84_2009 : K 84 2009 = [] := rfl
@[simp] theorem K85_2000 : K 85 2000 = [] := rfl
@[simp] theorem K85_2001 : K 85 2001 = [] := rfl
@[simp] theorem K85_2002 : K 85 2002 = [] := rfl
@[simp] theorem K85_2003 : K 85 2003 = [] := rfl
@[simp] theorem K85_2004 : K 85 2004 = [] := rfl
@[simp] theorem K85_2005 : K 85 2005 = [] := rfl
@[simp] theorem K85_2006 : K 85 2006 = [] := rfl
@[simp] theorem K85_2007 : K 85 2007 = [] := rfl
@[simp] theorem K85_2008 : K 85 2008 = [] := rfl
@[simp] theorem K85_2009 : K 85 2009 = [] := rfl
@[simp] theorem K86_2000 : K 86 2000 = [] := rfl
@[simp] theorem K86_2001 : K 86 2001 = [] := rfl
@[simp] theorem K86_2002 : K 86 2002 = [] := rfl
@[simp] theorem K86_2003 : K 86 2003 = [] := rfl
@[simp] theorem K87_2000 : K 87 2000 = [] := rfl
@[simp] theorem K87_2001 : K 87 2001 = [] := rfl
@[simp] theorem K87_2002 : K 87 2002 = [] := rfl
@[simp] theorem K87_2003 : K 87 2003 = [] := rfl
@[simp] theorem K87_2004 : K 87 2004 = [] := rfl
@[simp] theorem K87_2006 : K 87 2006 = [] := rfl
@[simp] theorem K87_2007 : K 87 2007 = [] := rfl
@[simp] theorem K87_2005 : K 87 2005 = [] := rfl
@[simp] theorem K87_2008 : K 87 2008 = [] := rfl
@[simp] theorem K88_2000 : K 88 2000 = [] := rfl
@[simp] theorem K88_2001 : K 88 2001 = [] := rfl
@[simp] theorem K89_2000 : K 89 2000 = [] := rfl
@[simp] theorem K89_2001 : K 89 2001 = [] := rfl
@[simp] theorem K89_2002 : K 89 2002 = [] := rfl
@[simp] theorem K89_2003 : K 89 2003 = [] := rfl
@[simp] theorem K91_2000 : K 91 2000 = [] := rfl
@[simp] theorem K91_2001 : K 91 2001 = [] := rfl
@[simp] theorem K91_2002 : K 91 2002 = [] := rfl
@[simp] theorem K91_2003 : K 91 2003 = [] := rfl
@[simp] theorem K92_2000 : K 92 2000 = [] := rfl
@[simp] theorem K92_2001 : K 92 2001 = [] := rfl
@[simp] theorem K92_2002 : K 92 2002 = [] := rfl
@[simp] theorem K92_2003 : K 92 2003 = [] := rfl
@[simp] theorem K94_2000 : K 94 2000 = [] := rfl
@[simp] theorem K94_2001 : K 94 2001 = [] := rfl
@[simp] theorem K94_2002 : K 94 2002 = [] := rfl
@[simp] theorem K94_2003 : K 94 2003 = [] := rfl
@[simp] theorem K94_2004 : K 94 2004 = [] := rfl
@[simp] theorem K95_2000 : K 95 2000 = [] := rfl
@[simp] theorem K95_2001 : K 95 2001 = [] := rfl
@[simp] theorem K95_2002 : K 95 2002 = [] := rfl
@[simp] theorem K95_2003 : K 95 2003 = [] := rfl
@[simp] theorem K96_2000 : K 96 2000 = [] := rfl
@[simp] theorem K96_2001 : K 96 2001 = [] := rfl
@[simp] theorem K96_2002 : K 96 2002 = [] := rfl
@[simp] theorem K96_2003 : K 96 2003 = [] := rfl
@[simp] theorem K96_2004 : K 96 2004 = [] := rfl
@[simp] theorem K96_2005 : K 96 2005 = [] := rfl
@[simp] theorem K96_2006 : K 96 2006 = [] := rfl
@[simp] theorem K96_2007 : K 96 2007 = [] := rfl
@[simp] theorem K97_2000 : K 97 2000 = [] := rfl
@[simp] theorem K97_2001 : K 97 2001 = [] := rfl
@[simp] theorem K97_2002 : K 97 2002 = [] := rfl
@[simp] theorem K97_2003 : K 97 2003 = [] := rfl
@[simp] theorem K97_2004 : K 97 2004 = [] := rfl
@[simp] theorem K98_2000 : K 98 2000 = [] := rfl
@[simp] theorem K98_2001 : K 98 2001 = [] := rfl
@[simp] theorem K98_2002 : K 98 2002 = [] := rfl
@[simp] theorem K98_2003 : K 98 2003 = [] := rfl
@[simp] theorem K99_2000 : K 99 2000 = [] := rfl
@[simp] theorem K99_2001 : K 99 2001 = [] := rfl
@[simp] theorem K100_2000 : K 100 2000 = [] := rfl
@[simp] theorem K100_2001 : K 100 2001 = [] := rfl
@[simp] theorem K107_2000 : K 107 2000 = [] := rfl
@[simp] theorem K107_2001 : K 107 2001 = [] := rfl
@[simp] theorem K108_2000 : K 108 2000 = [] := rfl
@[simp] theorem K108_2001 : K 108 2001 = [] := rfl
@[simp] theorem K108_2002 : K 108 2002 = [] := rfl
@[simp] theorem K109_2000 : K 109 2000 = [] := rfl
@[simp] theorem K109_2001 : K 109 2001 = [] := rfl
@[simp] theorem K109_2002 : K 109 2002 = [] := rfl
@[simp] theorem K109_2003 : K 109 2003 = [] := rfl
@[simp] theorem K109_2004 : K 109 2004 = [] := rfl
@[simp] theorem K109_2005 : K 109 2005 = [] := rfl
@[simp] theorem K109_2006 : K 109 2006 = [] := rfl
@[simp] theorem K109_2007 : K 109 2007 = [] := rfl
@[simp] theorem K109_2008 : K 109 2008 = [] := rfl
@[simp] theorem K109_2009 : K 109 2009 = [] := rfl
@[simp] theorem K109_2010 : K 109 2010 = [] := rfl
@[simp] theorem K109_2011 : K 109 2011 = [] := rfl
@[simp] theorem K10_1006 : K 10 1006 = [] := rfl
@[simp] theorem K13_1010 : K 13 1010 = [] := rfl
@[simp] theorem K16_1010 : K 16 1010 = [] := rfl
@[simp] theorem K19_1007 : K 19 1007 = [] := rfl
@[simp] theorem K19_1024 : K 19 1024 = [] := rfl
@[simp] theorem K19_1026 : K 19 1026 = [] := rfl
@[simp] theorem K19_1028 : K 19 1028 = [] := rfl
@[simp] theorem K19_1029 : K 19 1029 = [5, 29800] := rfl
@[simp] theorem K22_1008 : K 22 1008 = [] := rfl
@[simp] theorem K27_1007 : K 27 1007 = [] := rfl
@[simp] theorem K27_1009 : K 27 1009 = [] := rfl
@[simp] theorem K27_1010 : K 27 1010 = [] := rfl
@[simp] theorem K31_1004 : K 31 1004 = [] := rfl
@[simp] theorem K32_1008 : K 32 1008 = [] := rfl
@[simp] theorem K32_1010 : K 32 1010 = [] := rfl
@[simp] theorem K32_1012 : K 32 1012 = [] := rfl
@[simp] theorem K33_1004 : K 33 1004 = [] := rfl
@[simp] theorem K34_1008 : K 34 1008 = [] := rfl
@[simp] theorem K35_1006 : K 35 1006 = [] := rfl
@[simp] theorem K37_1011 : K 37 1011 = [] := rfl
@[simp] theorem K39_1003 : K 39 1003 = [] := rfl
@[simp] theorem K39_1007 : K 39 1007 = [] := rfl
@[simp] theorem K42_1010 : K 42 1010 = [6, 0, 6, 1, 6, 8224, 1006, 100001] := rfl
@[simp] theorem K42_1016 : K 42 1016 = [] := rfl
@[simp] theorem K42_1002 : K 42 1002 = [6, 0, 6, 1, 1006, 100001] := rfl
@[simp] theorem K45_1005 : K 45 1005 = [] := rfl
@[simp] theorem K50_1011 : K 50 1011 = [6, 0, 6, 11360, 6, 11361, 9, 0, 9, 11408] := rfl
@[simp] theorem K51_1007 : K 51 1007 = [4, 0] := rfl
@[simp] theorem K52_1006 : K 52 1006 = [6, 0, 6, 6240, 6, 6241, 9, 0, 9, 6288] := rfl
@[simp] theorem K55_1001 : K 55 1001 = [] := rfl
@[simp] theorem K61_1001 : K 61 1001 = [] := rfl
@[simp] theorem K64_1008 : K 64 1008 = [] := rfl
@[simp] theorem K76_1002 : K 76 1002 = [] := rfl
@[simp] theorem K76_1003 : K 76 1003 = [] := rfl
@[simp] theorem K76_1006 : K 76 1006 = [] := rfl
@[simp] theorem K81_1009 : K 81 1009 = [] := rfl
@[simp] theorem K82_1008 : K 82 1008 = [] := rfl
@[simp] theorem K84_1007 : K 84 1007 = [] := rfl
@[simp] theorem BL3 : BL 3 = none := rfl
@[simp] theorem WR3 : WR 3 = false := rfl
@[simp] theorem OW3 : OW 3 = false := rfl
@[simp] theorem BL4 : BL 4 = none := rfl
@[simp] theorem WR4 : WR 4 = false := rfl
@[simp] theorem OW4 : OW 4 = false := rfl
@[simp] theorem BL5 : BL 5 = none := rfl
@[simp] theorem WR5 : WR 5 = false := rfl
@[simp] theorem OW5 : OW 5 = false := rfl
@[simp] theorem BL6 : BL 6 = none := rfl
@[simp] theorem WR6 : WR 6 = false := rfl
@[simp] theorem OW6 : OW 6 = false := rfl
@[simp] theorem BL7 : BL 7 = none := rfl
@[simp] theorem WR7 : WR 7 = false := rfl
@[simp] theorem OW7 : OW 7 = false := rfl
@[simp] theorem BL8 : BL 8 = none := rfl
@[simp] theorem WR8 : WR 8 = false := rfl
@[simp] theorem OW8 : OW 8 = false := rfl
@[simp] theorem BL9 : BL 9 = none := rfl
@[simp] theorem WR9 : WR 9 = false := rfl
@[simp] theorem OW9 : OW 9 = false := rfl
@[simp] theorem BL10 : BL 10 = none := rfl
@[simp] theorem WR10 : WR 10 = false := rfl
@[simp] theorem OW10 : OW 10 = false := rfl
@[simp] theorem BL11 : BL 11 = none := rfl
@[simp] theorem WR11 : WR 11 = false := rfl
@[simp] theorem OW11 : OW 11 = false := rfl
@[simp] theorem BL12 : BL 12 = some (9, 0, 0) := rfl
@[simp] theorem WR12 : WR 12 = false := rfl
@[simp] theorem OW12 : OW 12 = false := rfl
@[simp] theorem BL13 : BL 13 = none := rfl
@[simp] theorem WR13 : WR 13 = false := rfl
@[simp] theorem OW13 : OW 13 = false := rfl
@[simp] theorem BL14 : BL 14 = none := rfl
@[simp] theorem WR14 : WR 14 = false := rfl
@[simp] theorem OW14 : OW 14 = false := rfl
@[simp] theorem BL15 : BL 15 = none := rfl
@[simp] theorem WR15 : WR 15 = false := rfl
@[simp] theorem OW15 : OW 15 = false := rfl
@[simp] theorem BL16 : BL 16 = none := rfl
@[simp] theorem WR16 : WR 16 = false := rfl
@[simp] theorem OW16 : OW 16 = false := rfl
@[simp] theorem BL17 : BL 17 = none := rfl
@[simp] theorem WR17 : WR 17 = false := rfl
@[simp] theorem OW17 : OW 17 = false := rfl
@[simp] theorem BL18 : BL 18 = none := rfl
@[simp] theorem WR18 : WR 18 = false := rfl
@[simp] theorem OW18 : OW 18 = false := rfl
@[simp] theorem BL19 : BL 19 = none := rfl
@[simp] theorem WR19 : WR 19 = false := rfl
@[simp] theorem OW19 : OW 19 = false := rfl
@[simp] theorem BL20 : BL 20 = none := rfl
@[simp] theorem WR20 : WR 20 = true := rfl
@[simp] theorem OW20 : OW 20 = false := rfl
@[simp] theorem BL21 : BL 21 = none := rfl
@[simp] theorem WR21 : WR 21 = false := rfl
@[simp] theorem OW21 : OW 21 = false := rfl
@[simp] theorem BL22 : BL 22 = none := rfl
@[simp] theorem WR22 : WR 22 = false := rfl
@[simp] theorem OW22 : OW 22 = false := rfl
@[simp] theorem BL23 : BL 23 = none := rfl
@[simp] theorem WR23 : WR 23 = false := rfl
@[simp] theorem OW23 : OW 23 = false := rfl
@[simp] theorem BL24 : BL 24 = none := rfl
@[simp] theorem WR24 : WR 24 = false := rfl
@[simp] theorem OW24 : OW 24 = false := rfl
@[simp] theorem BL25 : BL 25 = none := rfl
@[simp] theorem WR25 : WR 25 = true := rfl
@[simp] theorem OW25 : OW 25 = false := rfl
@[simp] theorem BL26 : BL 26 = none := rfl
@[simp] theorem WR26 : WR 26 = true := rfl
@[simp] theorem OW26 : OW 26 = false := rfl
@[simp] theorem BL27 : BL 27 = none := rfl
@[simp] theorem WR27 : WR 27 = true := rfl
@[simp] theorem OW27 : OW 27 = false := rfl
@[simp] theorem BL28 : BL 28 = none := rfl
@[simp] theorem WR28 : WR 28 = true := rfl
@[simp] theorem OW28 : OW 28 = false := rfl
@[simp] theorem BL29 : BL 29 = some (9, 0, 0) := rfl
@[simp] theorem WR29 : WR 29 = true := rfl
@[simp] theorem OW29 : OW 29 = false := rfl
@[simp] theorem BL30 : BL 30 = none := rfl
@[simp] theorem WR30 : WR 30 = false := rfl
@[simp] theorem OW30 : OW 30 = false := rfl
@[simp] theorem BL31 : BL 31 = none := rfl
@[simp] theorem WR31 : WR 31 = false := rfl
@[simp] theorem OW31 : OW 31 = false := rfl
@[simp] theorem BL32 : BL 32 = none := rfl
@[simp] theorem WR32 : WR 32 = false := rfl
@[simp] theorem OW32 : OW 32 = false := rfl
@[simp] theorem BL33 : BL 33 = none := rfl
@[simp] theorem WR33 : WR 33 = false := rfl
@[simp] theorem OW33 : OW 33 = false := rfl
@[simp] theorem BL34 : BL 34 = none := rfl
@[simp] theorem WR34 : WR 34 = false := rfl
@[simp] theorem OW34 : OW 34 = false := rfl
@[simp] theorem BL35 : BL 35 = none := rfl
@[simp] theorem WR35 : WR 35 = false := rfl
@[simp] theorem OW35 : OW 35 = false := rfl
@[simp] theorem BL36 : BL 36 = none := rfl
@[simp] theorem WR36 : WR 36 = false := rfl
@[simp] theorem OW36 : OW 36 = false := rfl
@[simp] theorem BL37 : BL 37 = none := rfl
@[simp] theorem WR37 : WR 37 = false := rfl
@[simp] theorem OW37 : OW 37 = false := rfl
@[simp] theorem BL39 : BL 39 = none := rfl
@[simp] theorem WR39 : WR 39 = false := rfl
@[simp] theorem OW39 : OW 39 = false := rfl
@[simp] theorem BL41 : BL 41 = none := rfl
@[simp] theorem WR41 : WR 41 = false := rfl
@[simp] theorem OW41 : OW 41 = false := rfl
@[simp] theorem BL42 : BL 42 = none := rfl
@[simp] theorem WR42 : WR 42 = true := rfl
@[simp] theorem OW42 : OW 42 = false := rfl
@[simp] theorem BL43 : BL 43 = none := rfl
@[simp] theorem WR43 : WR 43 = true := rfl
@[simp] theorem OW43 : OW 43 = false := rfl
@[simp] theorem BL44 : BL 44 = none := rfl
@[simp] theorem WR44 : WR 44 = false := rfl
@[simp] theorem OW44 : OW 44 = false := rfl
@[simp] theorem BL45 : BL 45 = none := rfl
@[simp] theorem WR45 : WR 45 = false := rfl
@[simp] theorem OW45 : OW 45 = false := rfl
@[simp] theorem BL46 : BL 46 = none := rfl
@[simp] theorem WR46 : WR 46 = false := rfl
@[simp] theorem OW46 : OW 46 = false := rfl
@[simp] theorem BL47 : BL 47 = none := rfl
@[simp] theorem WR47 : WR 47 = false := rfl
@[simp] theorem OW47 : OW 47 = false := rfl
@[simp] theorem BL48 : BL 48 = none := rfl
@[simp] theorem WR48 : WR 48 = true := rfl
@[simp] theorem OW48 : OW 48 = false := rfl
@[simp] theorem BL49 : BL 49 = none := rfl
@[simp] theorem WR49 : WR 49 = true := rfl
@[simp] theorem OW49 : OW 49 = false := rfl
@[simp] theorem BL50 : BL 50 = none := rfl
@[simp] theorem WR50 : WR 50 = true := rfl
@[simp] theorem OW50 : OW 50 = false := rfl
@[simp] theorem BL51 : BL 51 = none := rfl
@[simp] theorem WR51 : WR 51 = true := rfl
@[simp] theorem OW51 : OW 51 = false := rfl
@[simp] theorem BL52 : BL 52 = none := rfl
@[simp] theorem WR52 : WR 52 = true := rfl
@[simp] theorem OW52 : OW 52 = false := rfl
@[simp] theorem BL53 : BL 53 = none := rfl
@[simp] theorem WR53 : WR 53 = false := rfl
@[simp] theorem OW53 : OW 53 = false := rfl
@[simp] theorem BL54 : BL 54 = none := rfl
@[simp] theorem WR54 : WR 54 = false := rfl
@[simp] theorem OW54 : OW 54 = false := rfl
@[simp] theorem BL55 : BL 55 = none := rfl
@[simp] theorem WR55 : WR 55 = false := rfl
@[simp] theorem OW55 : OW 55 = false := rfl
@[simp] theorem BL56 : BL 56 = none := rfl
@[simp] theorem WR56 : WR 56 = false := rfl
@[simp] theorem OW56 : OW 56 = false := rfl
@[simp] theorem BL57 : BL 57 = none := rfl
@[simp] theorem WR57 : WR 57 = false := rfl
@[simp] theorem OW57 : OW 57 = false := rfl
@[simp] theorem BL58 : BL 58 = none := rfl
@[simp] theorem WR58 : WR 58 = false := rfl
@[simp] theorem OW58 : OW 58 = false := rfl
@[simp] theorem BL59 : BL 59 = none := rfl
@[simp] theorem WR59 : WR 59 = false := rfl
@[simp] theorem OW59 : OW 59 = false := rfl
@[simp] theorem BL60 : BL 60 = none := rfl
@[simp] theorem WR60 : WR 60 = false := rfl
@[simp] theorem OW60 : OW 60 = false := rfl
@[simp] theorem BL61 : BL 61 = none := rfl
@[simp] theorem WR61 : WR 61 = false := rfl
@[simp] theorem OW61 : OW 61 = false := rfl
@[simp] theorem BL62 : BL 62 = none := rfl
@[simp] theorem WR62 : WR 62 = false := rfl
@[simp] theorem OW62 : OW 62 = false := rfl
@[simp] theorem BL63 : BL 63 = none := rfl
@[simp] theorem WR63 : WR 63 = false := rfl
@[simp] theorem OW63 : OW 63 = false := rfl
@[simp] theorem BL64 : BL 64 = none := rfl
@[simp] theorem WR64 : WR 64 = false := rfl
@[simp] theorem OW64 : OW 64 = false := rfl
@[simp] theorem BL69 : BL 69 = none := rfl
@[simp] theorem WR69 : WR 69 = false := rfl
@[simp] theorem OW69 : OW 69 = false := rfl
@[simp] theorem BL70 : BL 70 = none := rfl
@[simp] theorem WR70 : WR 70 = false := rfl
@[simp] theorem OW70 : OW 70 = false := rfl
@[simp] theorem BL72 : BL 72 = none := rfl
@[simp] theorem WR72 : WR 72 = true := rfl
@[simp] theorem OW72 : OW 72 = false := rfl
@[simp] theorem BL73 : BL 73 = none := rfl
@[simp] theorem WR73 : WR 73 = true := rfl
@[simp] theorem OW73 : OW 73 = false := rfl
@[simp] theorem BL74 : BL 74 = none := rfl
@[simp] theorem WR74 : WR 74 = true := rfl
@[simp] theorem OW74 : OW 74 = false := rfl
@[simp] theorem BL75 : BL 75 = none := rfl
@[simp] theorem WR75 : WR 75 = false := rfl
@[simp] theorem OW75 : OW 75 = false := rfl
@[simp] theorem BL76 : BL 76 = none := rfl
@[simp] theorem WR76 : WR 76 = true := rfl
@[simp] theorem OW76 : OW 76 = false := rfl
@[simp] theorem BL77 : BL 77 = none := rfl
@[simp] theorem WR77 : WR 77 = false := rfl
@[simp] theorem OW77 : OW 77 = false := rfl
@[simp] theorem BL78 : BL 78 = none := rfl
@[simp] theorem WR78 : WR 78 = false := rfl
@[simp] theorem OW78 : OW 78 = false := rfl
@[simp] theorem BL79 : BL 79 = none := rfl
@[simp] theorem WR79 : WR 79 = false := rfl
@[simp] theorem OW79 : OW 79 = false := rfl
@[simp] theorem BL80 : BL 80 = none := rfl
@[simp] theorem WR80 : WR 80 = false := rfl
@[simp] theorem OW80 : OW 80 = false := rfl
@[simp] theorem BL81 : BL 81 = none := rfl
@[simp] theorem WR81 : WR 81 = false := rfl
@[simp] theorem OW81 : OW 81 = false := rfl
@[simp] theorem BL82 : BL 82 = none := rfl
@[simp] theorem WR82 : WR 82 = false := rfl
@[simp] theorem OW82 : OW 82 = false := rfl
@[simp] theorem BL83 : BL 83 = none := rfl
@[simp] theorem WR83 : WR 83 = false := rfl
@[simp] theorem OW83 : OW 83 = false := rfl
@[simp] theorem BL84 : BL 84 = none := rfl
@[simp] theorem WR84 : WR 84 = false := rfl
@[simp] theorem OW84 : OW 84 = false := rfl
@[simp] theorem BL85 : BL 85 = none := rfl
@[simp] theorem WR85 : WR 85 = false := rfl
@[simp] theorem OW85 : OW 85 = false := rfl
@[simp] theorem BL86 : BL 86 = none := rfl
@[simp] theorem WR86 : WR 86 = false := rfl
@[simp] theorem OW86 : OW 86 = false := rfl
@[simp] theorem BL87 : BL 87 = none := rfl
@[simp] theorem WR87 : WR 87 = false := rfl
@[simp] theorem OW87 : OW 87 = false := rfl
@[simp] theorem BL88 : BL 88 = none := rfl
@[simp] theorem WR88 : WR 88 = false := rfl
@[simp] theorem OW88 : OW 88 = false := rfl
@[simp] theorem BL89 : BL 89 = none := rfl
@[simp] theorem WR89 : WR 89 = true := rfl
@[simp] theorem OW89 : OW 89 = true := rfl
@[simp] theorem BL91 : BL 91 = none := rfl
@[simp] theorem WR91 : WR 91 = false := rfl
@[simp] theorem OW91 : OW 91 = false := rfl
@[simp] theorem BL92 : BL 92 = none := rfl
@[simp] theorem WR92 : WR 92 = false := rfl
@[simp] theorem OW92 : OW 92 = false := rfl
@[simp] theorem BL94 : BL 94 = none := rfl
@[simp] theorem WR94 : WR 94 = false := rfl
@[simp] theorem OW94 : OW 94 = false := rfl
@[simp] theorem BL95 : BL 95 = none := rfl
@[simp] theorem WR95 : WR 95 = false := rfl
@[simp] theorem OW95 : OW 95 = false := rfl
@[simp] theorem BL96 : BL 96 = none := rfl
@[simp] theorem WR96 : WR 96 = false := rfl
@[simp] theorem OW96 : OW 96 = false := rfl
@[simp] theorem BL97 : BL 97 = none := rfl
@[simp] theorem WR97 : WR 97 = false := rfl
@[simp] theorem OW97 : OW 97 = false := rfl
@[simp] theorem BL98 : BL 98 = none := rfl
@[simp] theorem WR98 : WR 98 = true := rfl
@[simp] theorem OW98 : OW 98 = true := rfl
@[simp] theorem BL99 : BL 99 = none := rfl
@[simp] theorem WR99 : WR 99 = false := rfl
@[simp] theorem OW99 : OW 99 = false := rfl
@[simp] theorem BL100 : BL 100 = none := rfl
@[simp] theorem WR100 : WR 100 = false := rfl
@[simp] theorem OW100 : OW 100 = false := rfl
@[simp] theorem BL107 : BL 107 = none := rfl
@[simp] theorem WR107 : WR 107 = false := rfl
@[simp] theorem OW107 : OW 107 = false := rfl
@[simp] theorem BL108 : BL 108 = none := rfl
@[simp] theorem WR108 : WR 108 = false := rfl
@[simp] theorem OW108 : OW 108 = false := rfl
@[simp] theorem BL109 : BL 109 = none := rfl
@[simp] theorem WR109 : WR 109 = false := rfl
@[simp] theorem OW109 : OW 109 = false := rfl
@[simp] theorem BL40 : BL 40 = none := rfl
@[simp] theorem WR40 : WR 40 = false := rfl
@[simp] theorem OW40 : OW 40 = false := rfl
@[simp] theorem BL106 : BL 106 = none := rfl
@[simp] theorem WR106 : WR 106 = false := rfl
@[simp] theorem OW106 : OW 106 = false := rfl
@[simp] theorem BL38 : BL 38 = some (2, 48, 48) := rfl
@[simp] theorem WR38 : WR 38 = false := rfl
@[simp] theorem OW38 : OW 38 = false := rfl
@[simp] theorem WRt3 : WR 1000003 = false := rfl
@[simp] theorem WRt4 : WR 1000004 = false := rfl
@[simp] theorem WRt5 : WR 1000005 = false := rfl
@[simp] theorem WRt9 : WR 1000009 = false := rfl
@[simp] theorem WRt22 : WR 1000022 = true := rfl
@[simp] theorem WRt24 : WR 1000024 = false := rfl
@[simp] theorem WRt33 : WR 1000033 = false := rfl
@[simp] theorem WRt36 : WR 1000036 = false := rfl
@[simp] theorem WRt38 : WR 1000038 = false := rfl
@[simp] theorem WRt45 : WR 1000045 = false := rfl
@[simp] theorem WRt48 : WR 1000048 = false := rfl
@[simp] theorem WRt51 : WR 1000051 = false := rfl
@[simp] theorem WRt52 : WR 1000052 = false := rfl
@[simp] theorem WRt54 : WR 1000054 = false := rfl
@[simp] theorem WRt56 : WR 1000056 = false := rfl
@[simp] theorem WRt71 : WR 1000071 = false := rfl
@[simp] theorem WRt72 : WR 1000072 = false := rfl
@[simp] theorem WRt74 : WR 1000074 = false := rfl
@[simp] theorem WRt77 : WR 1000077 = false := rfl
@[simp] theorem WRt99 : WR 1000099 = false := rfl
@[simp] theorem WRt104 : WR 1000104 = false := rfl
@[simp] theorem WRt117 : WR 1000117 = false := rfl
@[simp] theorem WRt121 : WR 1000121 = false := rfl
noncomputable def F_0 : FuncId → Option Func
  | 3 => some Tryz.f3
  | 4 => some Tryz.f4
  | 5 => some Tryz.f5
  | 6 => some Tryz.f6
  | 7 => some Tryz.f7
  | 8 => some Tryz.f8
  | 9 => some Tryz.f9
  | 10 => some Tryz.f10
  | 11 => some Tryz.f11
  | 12 => some Tryz.f12
  | 13 => some Tryz.f13
  | 14 => some Tryz.f14
  | 15 => some Tryz.f15
  | 16 => some Tryz.f16
  | 17 => some Tryz.f17
  | 18 => some Tryz.f18
  | 19 => some Tryz.f19
  | 20 => some Tryz.f20
  | 21 => some Tryz.f21
  | 22 => some Tryz.f22
  | 23 => some Tryz.f23
  | 24 => some Tryz.f24
  | 25 => some Tryz.f25
  | 26 => some Tryz.f26
  | f => none
noncomputable def F_1 : FuncId → Option Func
  | 27 => some Tryz.f27
  | 28 => some Tryz.f28
  | 29 => some Tryz.f29
  | 30 => some Tryz.f30
  | 31 => some Tryz.f31
  | 32 => some Tryz.f32
  | 33 => some Tryz.f33
  | 34 => some Tryz.f34
  | 35 => some Tryz.f35
  | 36 => some Tryz.f36
  | 37 => some Tryz.f37
  | 39 => some Tryz.f39
  | 41 => some Tryz.f41
  | 42 => some Tryz.f42
  | 43 => some Tryz.f43
  | 44 => some Tryz.f44
  | 45 => some Tryz.f45
  | 46 => some Tryz.f46
  | 47 => some Tryz.f47
  | 48 => some Tryz.f48
  | 49 => some Tryz.f49
  | 50 => some Tryz.f50
  | 51 => some Tryz.f51
  | 52 => some Tryz.f52
  | f => F_0 f
noncomputable def F_2 : FuncId → Option Func
  | 53 => some Tryz.f53
  | 54 => some Tryz.f54
  | 55 => some Tryz.f55
  | 56 => some Tryz.f56
  | 57 => some Tryz.f57
  | 58 => some Tryz.f58
  | 59 => some Tryz.f59
  | 60 => some Tryz.f60
  | 61 => some Tryz.f61
  | 62 => some Tryz.f62
  | 63 => some Tryz.f63
  | 64 => some Tryz.f64
  | 69 => some Tryz.f69
  | 70 => some Tryz.f70
  | 72 => some Tryz.f72
  | 73 => some Tryz.f73
  | 74 => some Tryz.f74
  | 75 => some Tryz.f75
  | 76 => some Tryz.f76
  | 77 => some Tryz.f77
  | 78 => some Tryz.f78
  | 79 => some Tryz.f79
  | 80 => some Tryz.f80
  | 81 => some Tryz.f81
  | f => F_1 f
noncomputable def F_3 : FuncId → Option Func
  | 82 => some Tryz.f82
  | 83 => some Tryz.f83
  | 84 => some Tryz.f84
  | 85 => some Tryz.f85
  | 86 => some Tryz.f86
  | 87 => some Tryz.f87
  | 88 => some Tryz.f88
  | 89 => some Tryz.f89
  | 91 => some Tryz.f91
  | 92 => some Tryz.f92
  | 94 => some Tryz.f94
  | 95 => some Tryz.f95
  | 96 => some Tryz.f96
  | 97 => some Tryz.f97
  | 98 => some Tryz.f98
  | 99 => some Tryz.f99
  | 100 => some Tryz.f100
  | 107 => some Tryz.f107
  | 108 => some Tryz.f108
  | 109 => some Tryz.f109
  | f => F_2 f
noncomputable def F : FuncId → Option Func := F_3
theorem F3 : F 3 = some Tryz.f3 := rfl
theorem chk3 : ∀ c, Tryz.f3.body = some c → chk WR (K 3) Tryz.f3.ntmps c = true := by intro c h; cases h; decide +kernel
theorem F4 : F 4 = some Tryz.f4 := rfl
theorem chk4 : ∀ c, Tryz.f4.body = some c → chk WR (K 4) Tryz.f4.ntmps c = true := by intro c h; cases h; decide +kernel
theorem F5 : F 5 = some Tryz.f5 := rfl
theorem chk5 : ∀ c, Tryz.f5.body = some c → chk WR (K 5) Tryz.f5.ntmps c = true := by intro c h; cases h; decide +kernel
theorem F6 : F 6 = some Tryz.f6 := rfl
theorem chk6 : ∀ c, Tryz.f6.body = some c → chk WR (K 6) Tryz.f6.ntmps c = true := by intro c h; cases h; decide +kernel
theorem F7 : F 7 = some Tryz.f7 := rfl
theorem chk7 : ∀ c, Tryz.f7.body = some c → chk WR (K 7) Tryz.f7.ntmps c = true := by intro c h; cases h; decide +kernel
theorem F8 : F 8 = some Tryz.f8 := rfl
theorem chk8 : ∀ c, Tryz.f8.body = some c → chk WR (K 8) Tryz.f8.ntmps c = true := by intro c h; cases h; decide +kernel
theorem F9 : F 9 = some Tryz.f9 := rfl
theorem chk9 : ∀ c, Tryz.f9.body = some c → chk WR (K 9) Tryz.f9.ntmps c = true := by intro c h; cases h; decide +kernel
theorem F10 : F 10 = some Tryz.f10 := rfl
theorem chk10 : ∀ c, Tryz.f10.body = some c → chk WR (K 10) Tryz.f10.ntmps c = true := by intro c h; cases h; decide +kernel
theorem F11 : F 11 = some Tryz.f11 := rfl
theorem chk11 : ∀ c, Tryz.f11.body = some c → chk WR (K 11) Tryz.f11.ntmps c = true := by intro c h; cases h; decide +kernel
theorem F12 : F 12 = some Tryz.f12 := rfl
theorem chk12 : ∀ c, Tryz.f12.body = some c → chk WR (K 12) Tryz.f12.ntmps c = true := by intro c h; cases h; decide +kernel
theorem F13 : F 13 = some Tryz.f13 := rfl
theorem chk13 : ∀ c, Tryz.f13.body = some c → chk WR (K 13) Tryz.f13.ntmps c = true := by intro c h; cases h; decide +kernel
theorem F14 : F 14 = some Tryz.f14 := rfl
theorem chk14 : ∀ c, Tryz.f14.body = some c → chk WR (K 14) Tryz.f14.ntmps c = true := by intro c h; cases h; decide +kernel
theorem F15 : F 15 = some Tryz.f15 := rfl
theorem chk15 : ∀ c, Tryz.f15.body = some c → chk WR (K 15) Tryz.f15.ntmps c = true := by intro c h; cases h; decide +kernel
theorem F16 : F 16 = some Tryz.f16 := rfl
theorem chk16 : ∀ c, Tryz.f16.body = some c → chk WR (K 16) Tryz.f16.ntmps c = true := by intro c h; cases h; decide +kernel
theorem F17 : F 17 = some Tryz.f17 := rfl
theorem chk17 : ∀ c, Tryz.f17.body = some c → chk WR (K 17) Tryz.f17.ntmps c = true := by intro c h; cases h; decide +kernel
theorem F18 : F 18 = some Tryz.f18 := rfl
theorem chk18 : ∀ c, Tryz.f18.body = some c → chk WR (K 18) Tryz.f18.ntmps c = true := by intro c h; cases h; decide +kernel
theorem F19 : F 19 = some Tryz.f19 := rfl
theorem chk19 : ∀ c, Tryz.f19.body = some c → chk WR (K 19) Tryz.f19.ntmps c = true := by intro c h; cases h; decide +kernel
theorem F20 : F 20 = some Tryz.f20 := rfl
theorem chk20 : ∀ c, Tryz.f20.body = some c → chk WR (K 20) Tryz.f20.ntmps c = true := by intro c h; cases h; decide +kernel
theorem F21 : F 21 = some Tryz.f21 := rfl
theorem chk21 : ∀ c, Tryz.f21.body = some c → chk WR (K 21) Tryz.f21.ntmps c = true := by intro c h; cases h; decide +kernel
theorem F22 : F 22 = some Tryz.f22 := rfl
theorem chk22 : ∀ c, Tryz.f22.body = some c → chk WR (K 22) Tryz.f22.ntmps c = true := by intro c h; cases h; decide +kernel
theorem F23 : F 23 = some Tryz.f23 := rfl
theorem chk23 : ∀ c, Tryz.f23.body = some c → chk WR (K 23) Tryz.f23.ntmps c = true := by intro c h; cases h; decide +kernel
theorem F24 : F 24 = some Tryz.f24 := rfl
theorem chk24 : ∀ c, Tryz.f24.body = some c → chk WR (K 24) Tryz.f24.ntmps c = true := by intro c h; cases h; decide +kernel
theorem F25 : F 25 = some Tryz.f25 := rfl
theorem chk25 : ∀ c, Tryz.f25.body = some c → chk WR (K 25) Tryz.f25.ntmps c = true := by intro c h; cases h; decide +kernel
theorem F26 : F 26 = some Tryz.f26 := rfl
theorem chk26 : ∀ c, Tryz.f26.body = some c → chk WR (K 26) Tryz.f26.ntmps c = true := by intro c h; cases h; decide +kernel
theorem F27 : F 27 = some Tryz.f27 := rfl
theorem chk27 : ∀ c, Tryz.f27.body = some c → chk WR (K 27) Tryz.f27.ntmps c = true := by intro c h; cases h; decide +kernel
theorem F28 : F 28 = some Tryz.f28 := rfl
theorem chk28 : ∀ c, Tryz.f28.body = some c → chk WR (K 28) Tryz.f28.ntmps c = true := by intro c h; cases h; decide +kernel
theorem F29 : F 29 = some Tryz.f29 := rfl
theorem chk29 : ∀ c, Tryz.f29.body = some c → chk WR (K 29) Tryz.f29.ntmps c = true := by intro c h; cases h; decide +kernel
theorem F30 : F 30 = some Tryz.f30 := rfl
theorem chk30 : ∀ c, Tryz.f30.body = some c → chk WR (K 30) Tryz.f30.ntmps c = true := by intro c h; cases h; decide +kernel
theorem F31 : F 31 = some Tryz.f31 := rfl
theorem chk31 : ∀ c, Tryz.f31.body = some c → chk WR (K 31) Tryz.f31.ntmps c = true := by intro c h; cases h; decide +kernel
theorem F32 : F 32 = some Tryz.f32 := rfl
theorem chk32 : ∀ c, Tryz.f32.body = some c → chk WR (K 32) Tryz.f32.ntmps c = true := by intro c h; cases h; decide +kernel
theorem F33 : F 33 = some Tryz.f33 := rfl
theorem chk33 : ∀ c, Tryz.f33.body = some c → chk WR (K 33) Tryz.f33.ntmps c = true := by intro c h; cases h; decide +kernel
theorem F34 : F 34 = some Tryz.f34 := rfl
theorem chk34 : ∀ c, Tryz.f34.body = some c → chk WR (K 34) Tryz.f34.ntmps c = true := by intro c h; cases h; decide +kernel
theorem F35 : F 35 = some Tryz.f35 := rfl
theorem chk35 : ∀ c, Tryz.f35.body = some c → chk WR (K 35) Tryz.f35.ntmps c = true := by intro c h; cases h; decide +kernel
theorem F36 : F 36 = some Tryz.f36 := rfl
theorem chk36 : ∀ c, Tryz.f36.body = some c → chk WR (K 36) Tryz.f36.ntmps c = true := by intro c h; cases h; decide +kernel
theorem F37 : F 37 = some Tryz.f37 := rfl
theorem chk37 : ∀ c, Tryz.f37.body = some c → chk WR (K 37) Tryz.f37.ntmps c = true := by intro c h; cases h; decide +kernel
theorem F39 : F 39 = some Tryz.f39 := rfl
theorem chk39 : ∀ c, Tryz.f39.body = some c → chk WR (K 39) Tryz.f39.ntmps c = true := by intro c h; cases h; decide +kernel
theorem F41 : F 41 = some Tryz.f41 := rfl
theorem chk41 : ∀ c, Tryz.f41.body = some c → chk WR (K 41) Tryz.f41.ntmps c = true := by intro c h; cases h; decide +kernel
theorem F42 : F 42 = some Tryz.f42 := rfl
theorem chk42 : ∀ c, Tryz.f42.body = some c → chk WR (K 42) Tryz.f42.ntmps c = true := by intro c h; cases h; decide +kernel
theorem F43 : F 43 = some Tryz.f43 := rfl
theorem chk43 : ∀ c, Tryz.f43.body = some c → chk WR (K 43) Tryz.f43.ntmps c = true := by intro c h; cases h; decide +kernel
theorem F44 : F 44 = some Tryz.f44 := rfl
theorem chk44 : ∀ c, Tryz.f44.body = some c → chk WR (K 44) Tryz.f44.ntmps c = true := by intro c h; cases h; decide +kernel
theorem F45 : F 45 = some Tryz.f45 := rfl
theorem chk45 : ∀ c, Tryz.f45.body = some c → chk WR (K 45) Tryz.f45.ntmps c = true := by intro c h; cases h; decide +kernel
theorem F46 : F 46 = some Tryz.f46 := rfl
theorem chk46 : ∀ c, Tryz.f46.body = some c → chk WR (K 46) Tryz.f46.ntmps c = true := by intro c h; cases h; decide +kernel
theorem F47 : F 47 = some Tryz.f47 := rfl
theorem chk47 : ∀ c, Tryz.f47.body = some c → chk WR (K 47) Tryz.f47.ntmps c = true := by intro c h; cases h; decide +kernel
theorem F48 : F 48 = some Tryz.f48 := rfl
theorem chk48 : ∀ c, Tryz.f48.body = some c → chk WR (K 48) Tryz.f48.ntmps c = true := by intro c h; cases h; decide +kernel
theorem F49 : F 49 = some Tryz.f49 := rfl
theorem chk49 : ∀ c, Tryz.f49.body = some c → chk WR (K 49) Tryz.f49.ntmps c = true := by intro c h; cases h; decide +kernel
theorem F50 : F 50 = some Tryz.f50 := rfl
theorem chk50 : ∀ c, Tryz.f50.body = some c → chk WR (K 50) Tryz.f50.ntmps c = true := by intro c h; cases h; decide +kernel
theorem F51 : F 51 = some Tryz.f51 := rfl
theorem chk51 : ∀ c, Tryz.f51.body = some c → chk WR (K 51) Tryz.f51.ntmps c = true := by intro c h; cases h; decide +kernel
theorem F52 : F 52 = some Tryz.f52 := rfl
theorem chk52 : ∀ c, Tryz.f52.body = some c → chk WR (K 52) Tryz.f52.ntmps c = true := by intro c h; cases h; decide +kernel
theorem F53 : F 53 = some Tryz.f53 := rfl
theorem chk53 : ∀ c, Tryz.f53.body = some c → chk WR (K 53) Tryz.f53.ntmps c = true := by intro c h; cases h; decide +kernel
theorem F54 : F 54 = some Tryz.f54 := rfl
theorem chk54 : ∀ c, Tryz.f54.body = some c → chk WR (K 54) Tryz.f54.ntmps c = true := by intro c h; cases h; decide +kernel
theorem F55 : F 55 = some Tryz.f55 := rfl
theorem chk55 : ∀ c, Tryz.f55.body = some c → chk WR (K 55) Tryz.f55.ntmps c = true := by intro c h; cases h; decide +kernel
theorem F56 : F 56 = some Tryz.f56 := rfl
theorem chk56 : ∀ c, Tryz.f56.body = some c → chk WR (K 56) Tryz.f56.ntmps c = true := by intro c h; cases h; decide +kernel
theorem F57 : F 57 = some Tryz.f57 := rfl
theorem chk57 : ∀ c, Tryz.f57.body = some c → chk WR (K 57) Tryz.f57.ntmps c = true := by intro c h; cases h; decide +kernel
theorem F58 : F 58 = some Tryz.f58 := rfl
theorem chk58 : ∀ c, Tryz.f58.body = some c → chk WR (K 58) Tryz.f58.ntmps c = true := by intro c h; cases h; decide +kernel
theorem F59 : F 59 = some Tryz.f59 := rfl
theorem chk59 : ∀ c, Tryz.f59.body = some c → chk WR (K 59) Tryz.f59.ntmps c = true := by intro c h; cases h; decide +kernel
theorem F60 : F 60 = some Tryz.f60 := rfl
theorem chk60 : ∀ c, Tryz.f60.body = some c → chk WR (K 60) Tryz.f60.ntmps c = true := by intro c h; cases h; decide +kernel
theorem F61 : F 61 = some Tryz.f61 := rfl
theorem chk61 : ∀ c, Tryz.f61.body = some c → chk WR (K 61) Tryz.f61.ntmps c = true := by intro c h; cases h; decide +kernel
theorem F62 : F 62 = some Tryz.f62 := rfl
theorem chk62 : ∀ c, Tryz.f62.body = some c → chk WR (K 62) Tryz.f62.ntmps c = true := by intro c h; cases h; decide +kernel
theorem F63 : F 63 = some Tryz.f63 := rfl
theorem chk63 : ∀ c, Tryz.f63.body = some c → chk WR (K 63) Tryz.f63.ntmps c = true := by intro c h; cases h; decide +kernel
theorem F64 : F 64 = some Tryz.f64 := rfl
theorem chk64 : ∀ c, Tryz.f64.body = some c → chk WR (K 64) Tryz.f64.ntmps c = true := by intro c h; cases h; decide +kernel
theorem F69 : F 69 = some Tryz.f69 := rfl
theorem chk69 : ∀ c, Tryz.f69.body = some c → chk WR (K 69) Tryz.f69.ntmps c = true := by intro c h; cases h; decide +kernel
theorem F70 : F 70 = some Tryz.f70 := rfl
theorem chk70 : ∀ c, Tryz.f70.body = some c → chk WR (K 70) Tryz.f70.ntmps c = true := by intro c h; cases h; decide +kernel
theorem F72 : F 72 = some Tryz.f72 := rfl
theorem chk72 : ∀ c, Tryz.f72.body = some c → chk WR (K 72) Tryz.f72.ntmps c = true := by intro c h; cases h; decide +kernel
theorem F73 : F 73 = some Tryz.f73 := rfl
theorem chk73 : ∀ c, Tryz.f73.body = some c → chk WR (K 73) Tryz.f73.ntmps c = true := by intro c h; cases h; decide +kernel
theorem F74 : F 74 = some Tryz.f74 := rfl
theorem chk74 : ∀ c, Tryz.f74.body = some c → chk WR (K 74) Tryz.f74.ntmps c = true := by intro c h; cases h; decide +kernel
theorem F75 : F 75 = some Tryz.f75 := rfl
theorem chk75 : ∀ c, Tryz.f75.body = some c → chk WR (K 75) Tryz.f75.ntmps c = true := by intro c h; cases h; decide +kernel
theorem F76 : F 76 = some Tryz.f76 := rfl
theorem chk76 : ∀ c, Tryz.f76.body = some c → chk WR (K 76) Tryz.f76.ntmps c = true := by intro c h; cases h; decide +kernel
theorem F77 : F 77 = some Tryz.f77 := rfl
theorem chk77 : ∀ c, Tryz.f77.body = some c → chk WR (K 77) Tryz.f77.ntmps c = true := by intro c h; cases h; decide +kernel
theorem F78 : F 78 = some Tryz.f78 := rfl
theorem chk78 : ∀ c, Tryz.f78.body = some c → chk WR (K 78) Tryz.f78.ntmps c = true := by intro c h; cases h; decide +kernel
theorem F79 : F 79 = some Tryz.f79 := rfl
theorem chk79 : ∀ c, Tryz.f79.body = some c → chk WR (K 79) Tryz.f79.ntmps c = true := by intro c h; cases h; decide +kernel
theorem F80 : F 80 = some Tryz.f80 := rfl
theorem chk80 : ∀ c, Tryz.f80.body = some c → chk WR (K 80) Tryz.f80.ntmps c = true := by intro c h; cases h; decide +kernel
theorem F81 : F 81 = some Tryz.f81 := rfl
theorem chk81 : ∀ c, Tryz.f81.body = some c → chk WR (K 81) Tryz.f81.ntmps c = true := by intro c h; cases h; decide +kernel
theorem F82 : F 82 = some Tryz.f82 := rfl
theorem chk82 : ∀ c, Tryz.f82.body = some c → chk WR (K 82) Tryz.f82.ntmps c = true := by intro c h; cases h; decide +kernel
theorem F83 : F 83 = some Tryz.f83 := rfl
theorem chk83 : ∀ c, Tryz.f83.body = some c → chk WR (K 83) Tryz.f83.ntmps c = true := by intro c h; cases h; decide +kernel
theorem F84 : F 84 = some Tryz.f84 := rfl
theorem chk84 : ∀ c, Tryz.f84.body = some c → chk WR (K 84) Tryz.f84.ntmps c = true := by intro c h; cases h; decide +kernel
theorem F85 : F 85 = some Tryz.f85 := rfl
theorem chk85 : ∀ c, Tryz.f85.body = some c → chk WR (K 85) Tryz.f85.ntmps c = true := by intro c h; cases h; decide +kernel
theorem F86 : F 86 = some Tryz.f86 := rfl
theorem chk86 : ∀ c, Tryz.f86.body = some c → chk WR (K 86) Tryz.f86.ntmps c = true := by intro c h; cases h; decide +kernel
theorem F87 : F 87 = some Tryz.f87 := rfl
theorem chk87 : ∀ c, Tryz.f87.body = some c → chk WR (K 87) Tryz.f87.ntmps c = true := by intro c h; cases h; decide +kernel
theorem F88 : F 88 = some Tryz.f88 := rfl
theorem chk88 : ∀ c, Tryz.f88.body = some c → chk WR (K 88) Tryz.f88.ntmps c = true := by intro c h; cases h; decide +kernel
theorem F89 : F 89 = some Tryz.f89 := rfl
theorem chk89 : ∀ c, Tryz.f89.body = some c → chk WR (K 89) Tryz.f89.ntmps c = true := by intro c h; cases h; decide +kernel
theorem F91 : F 91 = some Tryz.f91 := rfl
theorem chk91 : ∀ c, Tryz.f91.body = some c → chk WR (K 91) Tryz.f91.ntmps c = true := by intro c h; cases h; decide +kernel
theorem F92 : F 92 = some Tryz.f92 := rfl
theorem chk92 : ∀ c, Tryz.f92.body = some c → chk WR (K 92) Tryz.f92.ntmps c = true := by intro c h; cases h; decide +kernel
theorem F94 : F 94 = some Tryz.f94 := rfl
theorem chk94 : ∀ c, Tryz.f94.body = some c → chk WR (K 94) Tryz.f94.ntmps c = true := by intro c h; cases h; decide +kernel
theorem F95 : F 95 = some Tryz.f95 := rfl
theorem chk95 : ∀ c, Tryz.f95.body = some c → chk WR (K 95) Tryz.f95.ntmps c = true := by intro c h; cases h; decide +kernel
theorem F96 : F 96 = some Tryz.f96 := rfl
theorem chk96 : ∀ c, Tryz.f96.body = some c → chk WR (K 96) Tryz.f96.ntmps c = true := by intro c h; cases h; decide +kernel
theorem F97 : F 97 = some Tryz.f97 := rfl
theorem chk97 : ∀ c, Tryz.f97.body = some c → chk WR (K 97) Tryz.f97.ntmps c = true := by intro c h; cases h; decide +kernel
theorem F98 : F 98 = some Tryz.f98 := rfl
theorem chk98 : ∀ c, Tryz.f98.body = some c → chk WR (K 98) Tryz.f98.ntmps c = true := by intro c h; cases h; decide +kernel
theorem F99 : F 99 = some Tryz.f99 := rfl
theorem chk99 : ∀ c, Tryz.f99.body = some c → chk WR (K 99) Tryz.f99.ntmps c = true := by intro c h; cases h; decide +kernel
theorem F100 : F 100 = some Tryz.f100 := rfl
theorem chk100 : ∀ c, Tryz.f100.body = some c → chk WR (K 100) Tryz.f100.ntmps c = true := by intro c h; cases h; decide +kernel
theorem F107 : F 107 = some Tryz.f107 := rfl
theorem chk107 : ∀ c, Tryz.f107.body = some c → chk WR (K 107) Tryz.f107.ntmps c = true := by intro c h; cases h; decide +kernel
theorem F108 : F 108 = some Tryz.f108 := rfl
theorem chk108 : ∀ c, Tryz.f108.body = some c → chk WR (K 108) Tryz.f108.ntmps c = true := by intro c h; cases h; decide +kernel
theorem F109 : F 109 = some Tryz.f109 := rfl
theorem chk109 : ∀ c, Tryz.f109.body = some c → chk WR (K 109) Tryz.f109.ntmps c = true := by intro c h; cases h; decide +kernel
theorem ent {f : FuncId} {fn : Func} (h : Tryz.prog.funcs[f]? = some fn) (hb : fn.body.isSome = true) (hn : (fn.name == "runtime.NumGoroutine") = false) : Enters Tryz.prog f := enters_mk h hb hn
theorem okF_0 : ∀ f fn, F_0 f = some fn → Tryz.prog.funcs[f]? = some fn ∧ Enters Tryz.prog f ∧ ∀ c, fn.body = some c → chk WR (K f) fn.ntmps c = true := by
  intro f fn h
  unfold F_0 at h
  split at h
  · cases h; exact ⟨Tryz.func3, ent Tryz.func3 rfl rfl, chk3⟩
  · cases h; exact ⟨Tryz.func4, ent Tryz.func4 rfl rfl, chk4⟩
  · cases h; exact ⟨Tryz.func5, ent Tryz.func5 rfl rfl, chk5⟩
  · cases h; exact ⟨Tryz.func6, ent Tryz.func6 rfl rfl, chk6⟩
  · cases h; exact ⟨Tryz.func7, ent Tryz.func7 rfl rfl, chk7⟩
  · cases h; exact ⟨Tryz.func8, ent Tryz.func8 rfl rfl, chk8⟩
  · cases h; exact ⟨Tryz.func9, ent Tryz.func9 rfl rfl, chk9⟩
  · cases h; exact ⟨Tryz.func10, ent Tryz.func10 rfl rfl, chk10⟩
  · cases h; exact ⟨Tryz.func11, ent Tryz.func11 rfl rfl, chk11⟩
  · cases h; exact ⟨Tryz.func12, ent Tryz.func12 rfl rfl, chk12⟩
  · cases h; exact ⟨Tryz.func13, ent Tryz.func13 rfl rfl, chk13⟩
  · cases h; exact ⟨Tryz.func14, ent Tryz.func14 rfl rfl, chk14⟩
  · cases h; exact ⟨Tryz.func15, ent Tryz.func15 rfl rfl, chk15⟩
  · cases h; exact ⟨Tryz.func16, ent Tryz.func16 rfl rfl, chk16⟩
  · cases h; exact ⟨Tryz.func17, ent Tryz.func17 rfl rfl, chk17⟩
  · cases h; exact ⟨Tryz.func18, ent Tryz.func18 rfl rfl, chk18⟩
  · cases h; exact ⟨Tryz.func19, ent Tryz.func19 rfl rfl, chk19⟩
  · cases h; exact ⟨Tryz.func20, ent Tryz.func20 rfl rfl, chk20⟩
  · cases h; exact ⟨Tryz.func21, ent Tryz.func21 rfl rfl, chk21⟩
  · cases h; exact ⟨Tryz.func22, ent Tryz.func22 rfl rfl, chk22⟩
  · cases h; exact ⟨Tryz.func23, ent Tryz.func23 rfl rfl, chk23⟩
  · cases h; exact ⟨Tryz.func24, ent Tryz.func24 rfl rfl, chk24⟩
  · cases h; exact ⟨Tryz.func25, ent Tryz.func25 rfl rfl, chk25⟩
  · cases h; exact ⟨Tryz.func26, ent Tryz.func26 rfl rfl, chk26⟩
  · cases h
theorem okF_1 : ∀ f fn, F_1 f = some fn → Tryz.prog.funcs[f]? = some fn ∧ Enters Tryz.prog f ∧ ∀ c, fn.body = some c → chk WR (K f) fn.ntmps c = true := by
  intro f fn h
  unfold F_1 at h
  split at h
  · cases h; exact ⟨Tryz.func27, ent Tryz.func27 rfl rfl, chk27⟩
  · cases h; exact ⟨Tryz.func28, ent Tryz.func28 rfl rfl, chk28⟩
  · cases h; exact ⟨Tryz.func29, ent Tryz.func29 rfl rfl, chk29⟩
  · cases h; exact ⟨Tryz.func30, ent Tryz.func30 rfl rfl, chk30⟩
  · cases h; exact ⟨Tryz.func31, ent Tryz.func31 rfl rfl, chk31⟩
  · cases h; exact ⟨Tryz.func32, ent Tryz.func32 rfl rfl, chk32⟩
  · cases h; exact ⟨Tryz.func33, ent Tryz.func33 rfl rfl, chk33⟩
  · cases h; exact ⟨Tryz.func34, ent Tryz.func34 rfl rfl, chk34⟩
  · cases h; exact ⟨Tryz.func35, ent Tryz.func35 rfl rfl, chk35⟩
  · cases h; exact ⟨Tryz.func36, ent Tryz.func36 rfl rfl, chk36⟩
  · cases h; exact ⟨Tryz.func37, ent Tryz.func37 rfl rfl, chk37⟩
  · cases h; exact ⟨Tryz.func39, ent Tryz.func39 rfl rfl, chk39⟩
  · cases h; exact ⟨Tryz.func41, ent Tryz.func41 rfl rfl, chk41⟩
  · cases h; exact ⟨Tryz.func42, ent Tryz.func42 rfl rfl, chk42⟩
  · cases h; exact ⟨Tryz.func43, ent Tryz.func43 rfl rfl, chk43⟩
  · cases h; exact ⟨Tryz.func44, ent Tryz.func44 rfl rfl, chk44⟩
  · cases h; exact ⟨Tryz.func45, ent Tryz.func45 rfl rfl, chk45⟩
  · cases h; exact ⟨Tryz.func46, ent Tryz.func46 rfl rfl, chk46⟩
  · cases h; exact ⟨Tryz.func47, ent Tryz.func47 rfl rfl, chk47⟩
  · cases h; exact ⟨Tryz.func48, ent Tryz.func48 rfl rfl, chk48⟩
  · cases h; exact ⟨Tryz.func49, ent Tryz.func49 rfl rfl, chk49⟩
  · cases h; exact ⟨Tryz.func50, ent Tryz.func50 rfl rfl, chk50⟩
  · cases h; exact ⟨Tryz.func51, ent Tryz.func51 rfl rfl, chk51⟩
  · cases h; exact ⟨Tryz.func52, ent Tryz.func52 rfl rfl, chk52⟩
  · exact okF_0 _ _ h
theorem okF_2 : ∀ f fn, F_2 f = some fn → Tryz.prog.funcs[f]? = some fn ∧ Enters Tryz.prog f ∧ ∀ c, fn.body = some c → chk WR (K f) fn.ntmps c = true := by
  intro f fn h
  unfold F_2 at h
  split at h
  · cases h; exact ⟨Tryz.func53, ent Tryz.func53 rfl rfl, chk53⟩
  · cases h; exact ⟨Tryz.func54, ent Tryz.func54 rfl rfl, chk54⟩
  · cases h; exact ⟨Tryz.func55, ent Tryz.func55 rfl rfl, chk55⟩
  · cases h; exact ⟨Tryz.func56, ent Tryz.func56 rfl rfl, chk56⟩
  · cases h; exact ⟨Tryz.func57, ent Tryz.func57 rfl rfl, chk57⟩
  · cases h; exact ⟨Tryz.func58, ent Tryz.func58 rfl rfl, chk58⟩
  · cases h; exact ⟨Tryz.func59, ent Tryz.func59 rfl rfl, chk59⟩
  · cases h; exact ⟨Tryz.func60, ent Tryz.func60 rfl rfl, chk60⟩
  · cases h; exact ⟨Tryz.func61, ent Tryz.func61 rfl rfl, chk61⟩
  · cases h; exact ⟨Tryz.func62, ent Tryz.func62 rfl rfl, chk62⟩
  · cases h; exact ⟨Tryz.func63, ent Tryz.func63 rfl rfl, chk63⟩
  · cases h; exact ⟨Tryz.func64, ent Tryz.func64 rfl rfl, chk64⟩
  · cases h; exact ⟨Tryz.func69, ent Tryz.func69 rfl rfl, chk69⟩
  · cases h; exact ⟨Tryz.func70, ent Tryz.func70 rfl rfl, chk70⟩
  · cases h; exact ⟨Tryz.func72, ent Tryz.func72 rfl rfl, chk72⟩
  · cases h; exact ⟨Tryz.func73, ent Tryz.func73 rfl rfl, chk73⟩
  · cases h; exact ⟨Tryz.func74, ent Tryz.func74 rfl rfl, chk74⟩
  · cases h; exact ⟨Tryz.func75, ent Tryz.func75 rfl rfl, chk75⟩
  · cases h; exact ⟨Tryz.func76, ent Tryz.func76 rfl rfl, chk76⟩
  · cases h; exact ⟨Tryz.func77, ent Tryz.func77 rfl rfl, chk77⟩
  · cases h; exact ⟨Tryz.func78, ent Tryz.func78 rfl rfl, chk78⟩
  · cases h; exact ⟨Tryz.func79, ent Tryz.func79 rfl rfl, chk79⟩
  · cases h; exact ⟨Tryz.func80, ent Tryz.func80 rfl rfl, chk80⟩
  · cases h; exact ⟨Tryz.func81, ent Tryz.func81 rfl rfl, chk81⟩
  · exact okF_1 _ _ h
theorem okF_3 : ∀ f fn, F_3 f = some fn → Tryz.prog.funcs[f]? = some fn ∧ Enters Tryz.prog f ∧ ∀ c, fn.body = some c → chk WR (K f) fn.ntmps c = true := by
  intro f fn h
  unfold F_3 at h
  split at h
  · cases h; exact ⟨Tryz.func82, ent Tryz.func82 rfl rfl, chk82⟩
  · cases h; exact ⟨Tryz.func83, ent Tryz.func83 rfl rfl, chk83⟩
  · cases h; exact ⟨Tryz.func84, ent Tryz.func84 rfl rfl, chk84⟩
  · cases h; exact ⟨Tryz.func85, ent Tryz.func85 rfl rfl, chk85⟩
  · cases h; exact ⟨Tryz.func86, ent Tryz.func86 rfl rfl, chk86⟩
  · cases h; exact ⟨Tryz.func87, ent Tryz.func87 rfl rfl, chk87⟩
  · cases h; exact ⟨Tryz.func88, ent Tryz.func88 rfl rfl, chk88⟩
  · cases h; exact ⟨Tryz.func89, ent Tryz.func89 rfl rfl, chk89⟩
  · cases h; exact ⟨Tryz.func91, ent Tryz.func91 rfl rfl, chk91⟩
  · cases h; exact ⟨Tryz.func92, ent Tryz.func92 rfl rfl, chk92⟩
  · cases h; exact ⟨Tryz.func94, ent Tryz.func94 rfl rfl, chk94⟩
  · cases h; exact ⟨Tryz.func95, ent Tryz.func95 rfl rfl, chk95⟩
  · cases h; exact ⟨Tryz.func96, ent Tryz.func96 rfl rfl, chk96⟩
  · cases h; exact ⟨Tryz.func97, ent Tryz.func97 rfl rfl, chk97⟩
  · cases h; exact ⟨Tryz.func98, ent Tryz.func98 rfl rfl, chk98⟩
  · cases h; exact ⟨Tryz.func99, ent Tryz.func99 rfl rfl, chk99⟩
  · cases h; exact ⟨Tryz.func100, ent Tryz.func100 rfl rfl, chk100⟩
  · cases h; exact ⟨Tryz.func107, ent Tryz.func107 rfl rfl, chk107⟩
  · cases h; exact ⟨Tryz.func108, ent Tryz.func108 rfl rfl, chk108⟩
  · cases h; exact ⟨Tryz.func109, ent Tryz.func109 rfl rfl, chk109⟩
  · exact okF_2 _ _ h
end Go.Proofs.YtbjmfjfnilmhhaaGreatDoor.Eng
