/- The types, the functions and the loops' live slots that the laws reach, first part. No conditions. -/
import Derived.Test.YtfcnlfjenialdaaEngS
import Derived.Test.YtfcnlfjenialdaaProg
import Derived.KernelRfl
import Derived.WalkKit
namespace Go.Proofs.Ytfcnlfjenialdaa.Eng
open Go Go.Proofs
set_option maxRecDepth 100000
def T : Tab
  | 3 => some ⟨.int .i64, 1, 8, [.int .i64 0], true⟩
  | 4 => some ⟨.bool, 1, 1, [.bool false], true⟩
  | 22 => some ⟨(.slice 50), 1, 24, [.slice none 0 0], false⟩
  | 23 => some ⟨(.slice 43), 1, 24, [.slice none 0 0], false⟩
  | 26 => some ⟨(.slice 3), 1, 24, [.slice none 0 0], false⟩
  | 28 => some ⟨(.struct [(0, 1, false), (1, 1, false), (2, 1, false)]), 3, 40, [.int .i64 0, .int .i64 0, .slice none 0 0], false⟩
  | 31 => some ⟨(.slice 48), 1, 24, [.slice none 0 0], false⟩
  | 33 => some ⟨(.slice 28), 1, 24, [.slice none 0 0], false⟩
  | 43 => some ⟨(.struct [(0, 1, false), (1, 1, false), (2, 1, false)]), 3, 40, [.int .i64 0, .int .i64 0, .slice none 0 0], false⟩
  | 48 => some ⟨(.struct [(0, 1, false), (1, 1, false)]), 2, 16, [.int .i64 0, .int .i64 0], true⟩
  | 50 => some ⟨(.struct [(0, 1, false), (1, 1, false)]), 2, 16, [.int .i64 0, .int .i64 0], true⟩
  | 70 => some ⟨.oth, 1, 8, [.nilFunc], false⟩
  | 73 => some ⟨.oth, 1, 8, [.nilFunc], false⟩
  | 75 => some ⟨.oth, 1, 8, [.nilFunc], false⟩
  | 78 => some ⟨.int .u64, 1, 8, [.int .u64 0], true⟩
  | 82 => some ⟨.int .u32, 1, 4, [.int .u32 0], true⟩
  | 85 => some ⟨.int .u64, 1, 8, [.int .u64 0], true⟩
  | _ => none
theorem T3 : T 3 = some ⟨.int .i64, 1, 8, [.int .i64 0], true⟩ := rfl
theorem ok3 : TiOk Try.prog 3 ⟨.int .i64, 1, 8, [.int .i64 0], true⟩ := ⟨(by kernel_rfl : Try.prog.underlying 3 = _), (TiOk.of_info (z := (.int .i64 0)) (by kernel_rfl) rfl), rfl, by decide, (fun h => absurd h (by decide))⟩
theorem T4 : T 4 = some ⟨.bool, 1, 1, [.bool false], true⟩ := rfl
theorem ok4 : TiOk Try.prog 4 ⟨.bool, 1, 1, [.bool false], true⟩ := ⟨(by kernel_rfl : Try.prog.underlying 4 = _), (TiOk.of_info (z := (.bool false)) (by kernel_rfl) rfl), rfl, by decide, (fun h => absurd h (by decide))⟩
theorem T22 : T 22 = some ⟨(.slice 50), 1, 24, [.slice none 0 0], false⟩ := rfl
theorem ok22 : TiOk Try.prog 22 ⟨(.slice 50), 1, 24, [.slice none 0 0], false⟩ := ⟨(by kernel_rfl : Try.prog.underlying 22 = _), (TiOk.of_info (z := (.slice none 0 0)) (by kernel_rfl) rfl), rfl, by decide, (fun h => absurd h (by decide))⟩
theorem T23 : T 23 = some ⟨(.slice 43), 1, 24, [.slice none 0 0], false⟩ := rfl
theorem ok23 : TiOk Try.prog 23 ⟨(.slice 43), 1, 24, [.slice none 0 0], false⟩ := ⟨(by kernel_rfl : Try.prog.underlying 23 = _), (TiOk.of_info (z := (.slice none 0 0)) (by kernel_rfl) rfl), rfl, by decide, (fun h => absurd h (by decide))⟩
theorem T26 : T 26 = some ⟨(.slice 3), 1, 24, [.slice none 0 0], false⟩ := rfl
theorem ok26 : TiOk Try.prog 26 ⟨(.slice 3), 1, 24, [.slice none 0 0], false⟩ := ⟨(by kernel_rfl : Try.prog.underlying 26 = _), (TiOk.of_info (z := (.slice none 0 0)) (by kernel_rfl) rfl), rfl, by decide, (fun h => absurd h (by decide))⟩
theorem T28 : T 28 = some ⟨(.struct [(0, 1, false), (1, 1, false), (2, 1, false)]), 3, 40, [.int .i64 0, .int .i64 0, .slice none 0 0], false⟩ := rfl
theorem ok28 : TiOk Try.prog 28 ⟨(.struct [(0, 1, false), (1, 1, false), (2, 1, false)]), 3, 40, [.int .i64 0, .int .i64 0, .slice none 0 0], false⟩ := ⟨TiOk.of_struct Try.underlying28 (by kernel_rfl), (TiOk.of_info (z := (.agg #[.int .i64 0, .int .i64 0, .slice none 0 0])) (by kernel_rfl) rfl), rfl, by decide, (fun h => absurd h (by decide))⟩
theorem T31 : T 31 = some ⟨(.slice 48), 1, 24, [.slice none 0 0], false⟩ := rfl
theorem ok31 : TiOk Try.prog 31 ⟨(.slice 48), 1, 24, [.slice none 0 0], false⟩ := ⟨(by kernel_rfl : Try.prog.underlying 31 = _), (TiOk.of_info (z := (.slice none 0 0)) (by kernel_rfl) rfl), rfl, by decide, (fun h => absurd h (by decide))⟩
theorem T33 : T 33 = some ⟨(.slice 28), 1, 24, [.slice none 0 0], false⟩ := rfl
theorem ok33 : TiOk Try.prog 33 ⟨(.slice 28), 1, 24, [.slice none 0 0], false⟩ := ⟨(by kernel_rfl : Try.prog.underlying 33 = _), (TiOk.of_info (z := (.slice none 0 0)) (by kernel_rfl) rfl), rfl, by decide, (fun h => absurd h (by decide))⟩
theorem T43 : T 43 = some ⟨(.struct [(0, 1, false), (1, 1, false), (2, 1, false)]), 3, 40, [.int .i64 0, .int .i64 0, .slice none 0 0], false⟩ := rfl
theorem ok43 : TiOk Try.prog 43 ⟨(.struct [(0, 1, false), (1, 1, false), (2, 1, false)]), 3, 40, [.int .i64 0, .int .i64 0, .slice none 0 0], false⟩ := ⟨TiOk.of_struct Try.underlying43 (by kernel_rfl), (TiOk.of_info (z := (.agg #[.int .i64 0, .int .i64 0, .slice none 0 0])) (by kernel_rfl) rfl), rfl, by decide, (fun h => absurd h (by decide))⟩
theorem T48 : T 48 = some ⟨(.struct [(0, 1, false), (1, 1, false)]), 2, 16, [.int .i64 0, .int .i64 0], true⟩ := rfl
theorem ok48 : TiOk Try.prog 48 ⟨(.struct [(0, 1, false), (1, 1, false)]), 2, 16, [.int .i64 0, .int .i64 0], true⟩ := ⟨TiOk.of_struct Try.underlying48 (by kernel_rfl), (TiOk.of_info (z := (.agg #[.int .i64 0, .int .i64 0])) (by kernel_rfl) rfl), rfl, by decide, (fun _ => by kernel_rfl)⟩
theorem T50 : T 50 = some ⟨(.struct [(0, 1, false), (1, 1, false)]), 2, 16, [.int .i64 0, .int .i64 0], true⟩ := rfl
theorem ok50 : TiOk Try.prog 50 ⟨(.struct [(0, 1, false), (1, 1, false)]), 2, 16, [.int .i64 0, .int .i64 0], true⟩ := ⟨TiOk.of_struct Try.underlying50 (by kernel_rfl), (TiOk.of_info (z := (.agg #[.int .i64 0, .int .i64 0])) (by kernel_rfl) rfl), rfl, by decide, (fun _ => by kernel_rfl)⟩
theorem T70 : T 70 = some ⟨.oth, 1, 8, [.nilFunc], false⟩ := rfl
theorem ok70 : TiOk Try.prog 70 ⟨.oth, 1, 8, [.nilFunc], false⟩ := ⟨⟨_, Try.underlying70, rfl⟩, (TiOk.of_info (z := (.nilFunc)) (by kernel_rfl) rfl), rfl, by decide, (fun h => absurd h (by decide))⟩
theorem T73 : T 73 = some ⟨.oth, 1, 8, [.nilFunc], false⟩ := rfl
theorem ok73 : TiOk Try.prog 73 ⟨.oth, 1, 8, [.nilFunc], false⟩ := ⟨⟨_, Try.underlying73, rfl⟩, (TiOk.of_info (z := (.nilFunc)) (by kernel_rfl) rfl), rfl, by decide, (fun h => absurd h (by decide))⟩
theorem T75 : T 75 = some ⟨.oth, 1, 8, [.nilFunc], false⟩ := rfl
theorem ok75 : TiOk Try.prog 75 ⟨.oth, 1, 8, [.nilFunc], false⟩ := ⟨⟨_, Try.underlying75, rfl⟩, (TiOk.of_info (z := (.nilFunc)) (by kernel_rfl) rfl), rfl, by decide, (fun h => absurd h (by decide))⟩
theorem T78 : T 78 = some ⟨.int .u64, 1, 8, [.int .u64 0], true⟩ := rfl
theorem ok78 : TiOk Try.prog 78 ⟨.int .u64, 1, 8, [.int .u64 0], true⟩ := ⟨(by kernel_rfl : Try.prog.underlying 78 = _), (TiOk.of_info (z := (.int .u64 0)) (by kernel_rfl) rfl), rfl, by decide, (fun h => absurd h (by decide))⟩
theorem T82 : T 82 = some ⟨.int .u32, 1, 4, [.int .u32 0], true⟩ := rfl
theorem ok82 : TiOk Try.prog 82 ⟨.int .u32, 1, 4, [.int .u32 0], true⟩ := ⟨(by kernel_rfl : Try.prog.underlying 82 = _), (TiOk.of_info (z := (.int .u32 0)) (by kernel_rfl) rfl), rfl, by decide, (fun h => absurd h (by decide))⟩
theorem T85 : T 85 = some ⟨.int .u64, 1, 8, [.int .u64 0], true⟩ := rfl
theorem ok85 : TiOk Try.prog 85 ⟨.int .u64, 1, 8, [.int .u64 0], true⟩ := ⟨(by kernel_rfl : Try.prog.underlying 85 = _), (TiOk.of_info (z := (.int .u64 0)) (by kernel_rfl) rfl), rfl, by decide, (fun h => absurd h (by decide))⟩
theorem tabOk : TabOk Try.prog T := by
  intro t i h
  unfold T at h
  split at h
  · cases h; exact ok3
  · cases h; exact ok4
  · cases h; exact ok22
  · cases h; exact ok23
  · cases h; exact ok26
  · cases h; exact ok28
  · cases h; exact ok31
  · cases h; exact ok33
  · cases h; exact ok43
  · cases h; exact ok48
  · cases h; exact ok50
  · cases h; exact ok70
  · cases h; exact ok73
  · cases h; exact ok75
  · cases h; exact ok78
  · cases h; exact ok82
  · cases h; exact ok85
  · cases h
set_option maxHeartbeats 1000000
def WR (f : FuncId) : Bool := f == 13 || f == 14 || f == 15 || f == 30 || f == 52 || f == 69
def OW (f : FuncId) : Bool := f == 13 || f == 14 || f == 15 || f == 30 || f == 52 || f == 69
def BL : FuncId → Option (Nat × TypeId × TypeId)
  | 8 => some (9, 0, 0)
  | 14 => some (9, 0, 0)
  | _ => none
def K : FuncId → Nat → List Nat
  | 5, 0 => [0, 1, 5]
  | 7, 0 => [0, 3, 4]
  | 8, 0 => [0, 3, 4, 999]
  | 9, 0 => [1, 4, 6, 26, 27, 28]
  | 11, 0 => [0, 1, 5]
  | 12, 0 => [0, 1, 5]
  | 13, 0 => [0, 1, 5]
  | 14, 0 => [0, 1, 5, 999]
  | 18, 0 => [0, 3, 4]
  | 19, 0 => [0, 3]
  | 23, 0 => [3, 9, 10, 11]
  | 25, 0 => [0, 5, 6, 7]
  | 28, 0 => [0, 1, 5]
  | 30, 0 => [0, 1, 5]
  | 31, 0 => [0, 1, 5]
  | 37, 0 => [0, 1, 2, 6, 7, 8]
  | 38, 0 => [1, 2, 4, 5, 6]
  | 40, 0 => [0, 4, 5, 6, 8, 9, 10]
  | 41, 0 => [0, 3, 4]
  | 49, 0 => [1, 3]
  | 57, 0 => [7, 8]
  | 58, 0 => [1, 4, 6, 16, 17, 18]
  | 60, 0 => [2, 3, 6, 8, 20, 21, 22]
  | 67, 0 => [0, 1, 7, 8]
  | 8, 2000 => [1]
  | 8, 2001 => [1]
  | 8, 2002 => [1]
  | 8, 2003 => [1]
  | 8, 2005 => [1]
  | 8, 2004 => [1]
  | 8, 2006 => [1]
  | 9, 2000 => [1]
  | 9, 2001 => [1]
  | 9, 2002 => [1]
  | 9, 2003 => [1]
  | 9, 2004 => [1]
  | 9, 2005 => [1]
  | 9, 2006 => [1]
  | 9, 2007 => [1]
  | 9, 2008 => [1]
  | 9, 2009 => [1]
  | 9, 2011 => [1]
  | 9, 2012 => [1]
  | 14, 2000 => [1]
  | 14, 2001 => [1]
  | 14, 2002 => [1]
  | 14, 2004 => [1]
  | 14, 2005 => [1]
  | 14, 2006 => [1]
  | 14, 2007 => [1]
  | 14, 2008 => [1]
  | 14, 2003 => [1]
  | 14, 2009 => [1]
  | _, _ => []
@[simp] theorem K5_0 : K 5 0 = [0, 1, 5] := rfl
@[simp] theorem K7_0 : K 7 0 = [0, 3, 4] := rfl
@[simp] theorem K8_0 : K 8 0 = [0, 3, 4, 999] := rfl
@[simp] theorem K9_0 : K 9 0 = [1, 4, 6, 26, 27, 28] := rfl
@[simp] theorem K11_0 : K 11 0 = [0, 1, 5] := rfl
@[simp] theorem K12_0 : K 12 0 = [0, 1, 5] := rfl
@[simp] theorem K13_0 : K 13 0 = [0, 1, 5] := rfl
@[simp] theorem K14_0 : K 14 0 = [0, 1, 5, 999] := rfl
@[simp] theorem K18_0 : K 18 0 = [0, 3, 4] := rfl
@[simp] theorem K19_0 : K 19 0 = [0, 3] := rfl
@[simp] theorem K23_0 : K 23 0 = [3, 9, 10, 11] := rfl
@[simp] theorem K25_0 : K 25 0 = [0, 5, 6, 7] := rfl
@[simp] theorem K28_0 : K 28 0 = [0, 1, 5] := rfl
@[simp] theorem K30_0 : K 30 0 = [0, 1, 5] := rfl
@[simp] theorem K31_0 : K 31 0 = [0, 1, 5] := rfl
@[simp] theorem K37_0 : K 37 0 = [0, 1, 2, 6, 7, 8] := rfl
@[simp] theorem K38_0 : K 38 0 = [1, 2, 4, 5, 6] := rfl
@[simp] theorem K40_0 : K 40 0 = [0, 4, 5, 6, 8, 9, 10] := rfl
@[simp] theorem K41_0 : K 41 0 = [0, 3, 4] := rfl
@[simp] theorem K49_0 : K 49 0 = [1, 3] := rfl
@[simp] theorem K57_0 : K 57 0 = [7, 8] := rfl
@[simp] theorem K58_0 : K 58 0 = [1, 4, 6, 16, 17, 18] := rfl
@[simp] theorem K60_0 : K 60 0 = [2, 3, 6, 8, 20, 21, 22] := rfl
@[simp] theorem K67_0 : K 67 0 = [0, 1, 7, 8] := rfl
@[simp] theorem K3_2000 : K 3 2000 = [] := rfl
@[simp] theorem K3_2001 : K 3 2001 = [] := rfl
@[simp] theorem K3_2002 : K 3 2002 = [] := rfl
@[simp] theorem K3_2003 : K 3 2003 = [] := rfl
@[simp] theorem K3_2004 : K 3 2004 = [] := rfl
@[simp] theorem K3_2005 : K 3 2005 = [] := rfl
@[simp] theorem K3_2006 : K 3 2006 = [] := rfl
@[simp] theorem K3_2007 : K 3 2007 = [] := rfl
@[simp] theorem K3_2008 : K 3 2008 = [] := rfl
@[simp] theorem K3_2009 : K 3 2009 = [] := rfl
@[simp] theorem K3_2010 : K 3 2010 = [] := rfl
@[simp] theorem K3_2011 : K 3 2011 = [] := rfl
@[simp] theorem K3_2012 : K 3 2012 = [] := rfl
@[simp] theorem K3_2013 : K 3 2013 = [] := rfl
@[simp] theorem K3_2014 : K 3 2014 = [] := rfl
@[simp] theorem K3_2015 : K 3 2015 = [] := rfl
@[simp] theorem K3_2016 : K 3 2016 = [] := rfl
@[simp] theorem K3_2017 : K 3 2017 = [] := rfl
@[simp] theorem K3_2018 : K 3 2018 = [] := rfl
@[simp] theorem K3_2019 : K 3 2019 = [] := rfl
@[simp] theorem K3_2020 : K 3 2020 = [] := rfl
@[simp] theorem K3_2021 : K 3 2021 = [] := rfl
@[simp] theorem K3_2022 : K 3 2022 = [] := rfl
@[simp] theorem K3_2023 : K 3 2023 = [] := rfl
@[simp] theorem K3_2024 : K 3 2024 = [] := rfl
@[simp] theorem K3_2025 : K 3 2025 = [] := rfl
@[simp] theorem K3_2026 : K 3 2026 = [] := rfl
@[simp] theorem K3_2027 : K 3 2027 = [] := rfl
@[simp] theorem K3_2028 : K 3 2028 = [] := rfl
@[simp] theorem K3_2029 : K 3 2029 = [] := rfl
@[simp] theorem K3_2030 : K 3 2030 = [] := rfl
@[simp] theorem K3_2031 : K 3 2031 = [] := rfl
@[simp] theorem K3_2032 : K 3 2032 = [] := rfl
@[simp] theorem K3_2033 : K 3 2033 = [] := rfl
@[simp] theorem K3_2034 : K 3 2034 = [] := rfl
@[simp] theorem K3_2035 : K 3 2035 = [] := rfl
@[simp] theorem K3_2036 : K 3 2036 = [] := rfl
@[simp] theorem K3_2037 : K 3 2037 = [] := rfl
@[simp] theorem K3_2038 : K 3 2038 = [] := rfl
@[simp] theorem K3_2039 : K 3 2039 = [] := rfl
@[simp] theorem K3_2040 : K 3 2040 = [] := rfl
@[simp] theorem K4_2000 : K 4 2000 = [] := rfl
@[simp] theorem K4_2001 : K 4 2001 = [] := rfl
@[simp] theorem K4_2002 : K 4 2002 = [] := rfl
@[simp] theorem K4_2003 : K 4 2003 = [] := rfl
@[simp] theorem K4_2004 : K 4 2004 = [] := rfl
@[simp] theorem K5_2000 : K 5 2000 = [] := rfl
@[simp] theorem K5_2001 : K 5 2001 = [] := rfl
@[simp] theorem K5_2002 : K 5 2002 = [] := rfl
@[simp] theorem K5_2003 : K 5 2003 = [] := rfl
@[simp] theorem K5_2004 : K 5 2004 = [] := rfl
@[simp] theorem K5_2005 : K 5 2005 = [] := rfl
@[simp] theorem K5_2007 : K 5 2007 = [] := rfl
@[simp] theorem K5_2008 : K 5 2008 = [] := rfl
@[simp] theorem K5_2009 : K 5 2009 = [] := rfl
@[simp] theorem K5_2006 : K 5 2006 = [] := rfl
@[simp] theorem K5_2010 : K 5 2010 = [] := rfl
@[simp] theorem K6_2000 : K 6 2000 = [] := rfl
@[simp] theorem K6_2001 : K 6 2001 = [] := rfl
@[simp] theorem K6_2002 : K 6 2002 = [] := rfl
@[simp] theorem K6_2003 : K 6 2003 = [] := rfl
@[simp] theorem K7_2000 : K 7 2000 = [] := rfl
@[simp] theorem K7_2001 : K 7 2001 = [] := rfl
@[simp] theorem K7_2002 : K 7 2002 = [] := rfl
@[simp] theorem K7_2003 : K 7 2003 = [] := rfl
@[simp] theorem K7_2005 : K 7 2005 = [] := rfl
@[simp] theorem K7_2004 : K 7 2004 = [] := rfl
@[simp] theorem K7_2006 : K 7 2006 = [] := rfl
@[simp] theorem K8_2000 : K 8 2000 = [1] := rfl
@[simp] theorem K8_2001 : K 8 2001 = [1] := rfl
@[simp] theorem K8_2002 : K 8 2002 = [1] := rfl
@[simp] theorem K8_2003 : K 8 2003 = [1] := rfl
@[simp] theorem K8_2005 : K 8 2005 = [1] := rfl
@[simp] theorem K8_2004 : K 8 2004 = [1] := rfl
@[simp] theorem K8_2006 : K 8 2006 = [1] := rfl
@[simp] theorem K9_2000 : K 9 2000 = [1] := rfl
@[simp] theorem K9_2001 : K 9 2001 = [1] := rfl
@[simp] theorem K9_2002 : K 9 2002 = [1] := rfl
@[simp] theorem K9_2003 : K 9 2003 = [1] := rfl
@[simp] theorem K9_2004 : K 9 2004 = [1] := rfl
@[simp] theorem K9_2005 : K 9 2005 = [1] := rfl
@[simp] theorem K9_2006 : K 9 2006 = [1] := rfl
@[simp] theorem K9_2007 : K 9 2007 = [1] := rfl
@[simp] theorem K9_2008 : K 9 2008 = [1] := rfl
@[simp] theorem K9_2009 : K 9 2009 = [1] := rfl
@[simp] theorem K9_2011 : K 9 2011 = [1] := rfl
@[simp] theorem K9_2012 : K 9 2012 = [1] := rfl
@[simp] theorem K10_2000 : K 10 2000 = [] := rfl
@[simp] theorem K10_2001 : K 10 2001 = [] := rfl
@[simp] theorem K10_2002 : K 10 2002 = [] := rfl
@[simp] theorem K10_2003 : K 10 2003 = [] := rfl
@[simp] theorem K10_2004 : K 10 2004 = [] := rfl
@[simp] theorem K10_2005 : K 10 2005 = [] := rfl
@[simp] theorem K10_2006 : K 10 2006 = [] := rfl
@[simp] theorem K10_2007 : K 10 2007 = [] := rfl
@[simp] theorem K11_2000 : K 11 2000 = [] := rfl
@[simp] theorem K11_2001 : K 11 2001 = [] := rfl
@[simp] theorem K11_2002 : K 11 2002 = [] := rfl
@[simp] theorem K11_2003 : K 11 2003 = [] := rfl
@[simp] theorem K11_2004 : K 11 2004 = [] := rfl
@[simp] theorem K11_2007 : K 11 2007 = [] := rfl
@[simp] theorem K11_2005 : K 11 2005 = [] := rfl
@[simp] theorem K11_2008 : K 11 2008 = [] := rfl
@[simp] theorem K12_2000 : K 12 2000 = [] := rfl
@[simp] theorem K12_2001 : K 12 2001 = [] := rfl
@[simp] theorem K12_2002 : K 12 2002 = [] := rfl
@[simp] theorem K12_2003 : K 12 2003 = [] := rfl
@[simp] theorem K12_2004 : K 12 2004 = [] := rfl
@[simp] theorem K12_2007 : K 12 2007 = [] := rfl
@[simp] theorem K12_2005 : K 12 2005 = [] := rfl
@[simp] theorem K12_2008 : K 12 2008 = [] := rfl
@[simp] theorem K13_2000 : K 13 2000 = [] := rfl
@[simp] theorem K13_2001 : K 13 2001 = [] := rfl
@[simp] theorem K13_2002 : K 13 2002 = [] := rfl
@[simp] theorem K13_2004 : K 13 2004 = [] := rfl
@[simp] theorem K13_2005 : K 13 2005 = [] := rfl
@[simp] theorem K13_2006 : K 13 2006 = [] := rfl
@[simp] theorem K13_2007 : K 13 2007 = [] := rfl
@[simp] theorem K13_2003 : K 13 2003 = [] := rfl
@[simp] theorem K13_2008 : K 13 2008 = [] := rfl
@[simp] theorem K14_2000 : K 14 2000 = [1] := rfl
@[simp] theorem K14_2001 : K 14 2001 = [1] := rfl
@[simp] theorem K14_2002 : K 14 2002 = [1] := rfl
@[simp] theorem K14_2004 : K 14 2004 = [1] := rfl
@[simp] theorem K14_2005 : K 14 2005 = [1] := rfl
@[simp] theorem K14_2006 : K 14 2006 = [1] := rfl
@[simp] theorem K14_2007 : K 14 2007 = [1] := rfl
@[simp] theorem K14_2008 : K 14 2008 = [1] := rfl
@[simp] theorem K14_2003 : K 14 2003 = [1] := rfl
@[simp] theorem K14_2009 : K 14 2009 = [1] := rfl
@[simp] theorem K15_2000 : K 15 2000 = [] := rfl
@[simp] theorem K15_2001 : K 15 2001 = [] := rfl
@[simp] theorem K15_2002 : K 15 2002 = [] := rfl
@[simp] theorem K16_2000 : K 16 2000 = [] := rfl
@[simp] theorem K16_2001 : K 16 2001 = [] := rfl
@[simp] theorem K16_2002 : K 16 2002 = [] := rfl
@[simp] theorem K16_2003 : K 16 2003 = [] := rfl
@[simp] theorem K16_2004 : K 16 2004 = [] := rfl
@[simp] theorem K17_2000 : K 17 2000 = [] := rfl
@[simp] theorem K17_2001 : K 17 2001 = [] := rfl
@[simp] theorem K17_2002 : K 17 2002 = [] := rfl
@[simp] theorem K17_2003 : K 17 2003 = [] := rfl
@[simp] theorem K17_2004 : K 17 2004 = [] := rfl
@[simp] theorem K18_2000 : K 18 2000 = [] := rfl
@[simp] theorem K18_2001 : K 18 2001 = [] := rfl
@[simp] theorem K18_2002 : K 18 2002 = [] := rfl
@[simp] theorem K18_2003 : K 18 2003 = [] := rfl
@[simp] theorem K18_2004 : K 18 2004 = [] := rfl
@[simp] theorem K18_2005 : K 18 2005 = [] := rfl
@[simp] theorem K18_2007 : K 18 2007 = [] := rfl
@[simp] theorem K18_2008 : K 18 2008 = [] := rfl
@[simp] theorem K18_2009 : K 18 2009 = [] := rfl
@[simp] theorem K18_2010 : K 18 2010 = [] := rfl
@[simp] theorem K18_2006 : K 18 2006 = [] := rfl
@[simp] theorem K18_2011 : K 18 2011 = [] := rfl
@[simp] theorem K19_2000 : K 19 2000 = [] := rfl
@[simp] theorem K19_2001 : K 19 2001 = [] := rfl
@[simp] theorem K19_2002 : K 19 2002 = [] := rfl
@[simp] theorem K19_2005 : K 19 2005 = [] := rfl
@[simp] theorem K19_2003 : K 19 2003 = [] := rfl
@[simp] theorem K19_2006 : K 19 2006 = [] := rfl
@[simp] theorem K20_2000 : K 20 2000 = [] := rfl
@[simp] theorem K20_2001 : K 20 2001 = [] := rfl
@[simp] theorem K20_2002 : K 20 2002 = [] := rfl
@[simp] theorem K20_2003 : K 20 2003 = [] := rfl
@[simp] theorem K20_2004 : K 20 2004 = [] := rfl
@[simp] theorem K20_2005 : K 20 2005 = [] := rfl
@[simp] theorem K20_2006 : K 20 2006 = [] := rfl
@[simp] theorem K20_2007 : K 20 2007 = [] := rfl
@[simp] theorem K20_2009 : K 20 2009 = [] := rfl
@[simp] theorem K20_2010 : K 20 2010 = [] := rfl
@[simp] theorem K20_2011 : K 20 2011 = [] := rfl
@[simp] theorem K20_2012 : K 20 2012 = [] := rfl
@[simp] theorem K20_2013 : K 20 2013 = [] := rfl
@[simp] theorem K20_2014 : K 20 2014 = [] := rfl
@[simp] theorem K20_2015 : K 20 2015 = [] := rfl
@[simp] theorem K20_2016 : K 20 2016 = [] := rfl
@[simp] theorem K20_2017 : K 20 2017 = [] := rfl
@[simp] theorem K20_2018 : K 20 2018 = [] := rfl
@[simp] theorem K21_2000 : K 21 2000 = [] := rfl
@[simp] theorem K21_2001 : K 21 2001 = [] := rfl
@[simp] theorem K21_2002 : K 21 2002 = [] := rfl
@[simp] theorem K21_2003 : K 21 2003 = [] := rfl
@[simp] theorem K21_2004 : K 21 2004 = [] := rfl
@[simp] theorem K22_2000 : K 22 2000 = [] := rfl
@[simp] theorem K22_2001 : K 22 2001 = [] := rfl
@[simp] theorem K22_2002 : K 22 2002 = [] := rfl
@[simp] theorem K22_2003 : K 22 2003 = [] := rfl
@[simp] theorem K22_2004 : K 22 2004 = [] := rfl
@[simp] theorem K22_2005 : K 22 2005 = [] := rfl
@[simp] theorem K23_2000 : K 23 2000 = [] := rfl
@[simp] theorem K23_2001 : K 23 2001 = [] := rfl
@[simp] theorem K23_2002 : K 23 2002 = [] := rfl
@[simp] theorem K23_2003 : K 23 2003 = [] := rfl
@[simp] theorem K23_2004 : K 23 2004 = [] := rfl
@[simp] theorem K23_2005 : K 23 2005 = [] := rfl
@[simp] theorem K23_2006 : K 23 2006 = [] := rfl
@[simp] theorem K23_2007 : K 23 2007 = [] := rfl
@[simp] theorem K23_2008 : K 23 2008 = [] := rfl
@[simp] theorem K23_2009 : K 23 2009 = [] := rfl
@[simp] theorem K23_2010 : K 23 2010 = [] := rfl
@[simp] theorem K23_2011 : K 23 2011 = [] := rfl
@[simp] theorem K23_2012 : K 23 2012 = [] := rfl
@[simp] theorem K24_2000 : K 24 2000 = [] := rfl
@[simp] theorem K24_2001 : K 24 2001 = [] := rfl
@[simp] theorem K25_2000 : K 25 2000 = [] := rfl
@[simp] theorem K25_2001 : K 25 2001 = [] := rfl
@[simp] theorem K25_2002 : K 25 2002 = [] := rfl
@[simp] theorem K25_2003 : K 25 2003 = [] := rfl
@[simp] theorem K25_2005 : K 25 2005 = [] := rfl
@[simp] theorem K25_2006 : K 25 2006 = [] := rfl
@[simp] theorem K25_2007 : K 25 2007 = [] := rfl
@[simp] theorem K26_2000 : K 26 2000 = [] := rfl
@[simp] theorem K26_2001 : K 26 2001 = [] := rfl
@[simp] theorem K26_2002 : K 26 2002 = [] := rfl
@[simp] theorem K26_2003 : K 26 2003 = [] := rfl
@[simp] theorem K26_2004 : K 26 2004 = [] := rfl
@[simp] theorem K26_2005 : K 26 2005 = [] := rfl
@[simp] theorem K26_2006 : K 26 2006 = [] := rfl
@[simp] theorem K26_2007 : K 26 2007 = [] := rfl
@[simp] theorem K26_2009 : K 26 2009 = [] := rfl
@[simp] theorem K26_2011 : K 26 2011 = [] := rfl
@[simp] theorem K27_2000 : K 27 2000 = [] := rfl
@[simp] theorem K27_2001 : K 27 2001 = [] := rfl
@[simp] theorem K27_2002 : K 27 2002 = [] := rfl
@[simp] theorem K27_2003 : K 27 2003 = [] := rfl
@[simp] theorem K27_2004 : K 27 2004 = [] := rfl
@[simp] theorem K27_2005 : K 27 2005 = [] := rfl
@[simp] theorem K28_2000 : K 28 2000 = [] := rfl
@[simp] theorem K28_2001 : K 28 2001 = [] := rfl
@[simp] theorem K28_2002 : K 28 2002 = [] := rfl
@[simp] theorem K28_2003 : K 28 2003 = [] := rfl
@[simp] theorem K28_2004 : K 28 2004 = [] := rfl
@[simp] theorem K28_2007 : K 28 2007 = [] := rfl
@[simp] theorem K28_2005 : K 28 2005 = [] := rfl
@[simp] theorem K28_2008 : K 28 2008 = [] := rfl
@[simp] theorem K29_2000 : K 29 2000 = [] := rfl
@[simp] theorem K29_2001 : K 29 2001 = [] := rfl
@[simp] theorem K29_2002 : K 29 2002 = [] := rfl
@[simp] theorem K29_2003 : K 29 2003 = [] := rfl
@[simp] theorem K29_2004 : K 29 2004 = [] := rfl
@[simp] theorem K29_2005 : K 29 2005 = [] := rfl
@[simp] theorem K30_2000 : K 30 2000 = [] := rfl
@[simp] theorem K30_2001 : K 30 2001 = [] := rfl
@[simp] theorem K30_2002 : K 30 2002 = [] := rfl
@[simp] theorem K30_2004 : K 30 2004 = [] := rfl
@[simp] theorem K30_2005 : K 30 2005 = [] := rfl
@[simp] theorem K30_2003 : K 30 2003 = [] := rfl
@[simp] theorem K30_2006 : K 30 2006 = [] := rfl
@[simp] theorem K31_2000 : K 31 2000 = [] := rfl
@[simp] theorem K31_2001 : K 31 2001 = [] := rfl
@[simp] theorem K31_2002 : K 31 2002 = [] := rfl
@[simp] theorem K31_2004 : K 31 2004 = [] := rfl
@[simp] theorem K31_2005 : K 31 2005 = [] := rfl
@[simp] theorem K31_2006 : K 31 2006 = [] := rfl
@[simp] theorem K31_2003 : K 31 2003 = [] := rfl
@[simp] theorem K31_2007 : K 31 2007 = [] := rfl
@[simp] theorem K32_2000 : K 32 2000 = [] := rfl
@[simp] theorem K32_2001 : K 32 2001 = [] := rfl
@[simp] theorem K32_2002 : K 32 2002 = [] := rfl
@[simp] theorem K32_2003 : K 32 2003 = [] := rfl
@[simp] theorem K32_2004 : K 32 2004 = [] := rfl
@[simp] theorem K33_2000 : K 33 2000 = [] := rfl
@[simp] theorem K33_2001 : K 33 2001 = [] := rfl
@[simp] theorem K33_2002 : K 33 2002 = [] := rfl
@[simp] theorem K33_2003 : K 33 2003 = [] := rfl
@[simp] theorem K33_2004 : K 33 2004 = [] := rfl
@[simp] theorem K33_2005 : K 33 2005 = [] := rfl
@[simp] theorem K33_2006 : K 33 2006 = [] := rfl
@[simp] theorem K33_2007 : K 33 2007 = [] := rfl
@[simp] theorem K33_2008 : K 33 2008 = [] := rfl
@[simp] theorem K34_2000 : K 34 2000 = [] := rfl
@[simp] theorem K34_2001 : K 34 2001 = [] := rfl
@[simp] theorem K35_2000 : K 35 2000 = [] := rfl
@[simp] theorem K35_2001 : K 35 2001 = [] := rfl
@[simp] theorem K36_2000 : K 36 2000 = [] := rfl
@[simp] theorem K37_2000 : K 37 2000 = [] := rfl
@[simp] theorem K37_2001 : K 37 2001 = [] := rfl
@[simp] theorem K37_2002 : K 37 2002 = [] := rfl
@[simp] theorem K37_2003 : K 37 2003 = [] := rfl
@[simp] theorem K37_2005 : K 37 2005 = [] := rfl
@[simp] theorem K37_2004 : K 37 2004 = [] := rfl
@[simp] theorem K37_2006 : K 37 2006 = [] := rfl
@[simp] theorem K38_2000 : K 38 2000 = [] := rfl
@[simp] theorem K38_2001 : K 38 2001 = [] := rfl
@[simp] theorem K38_2002 : K 38 2002 = [] := rfl
@[simp] theorem K38_2003 : K 38 2003 = [] := rfl
@[simp] theorem K38_2006 : K 38 2006 = [] := rfl
@[simp] theorem K38_2007 : K 38 2007 = [] := rfl
@[simp] theorem K38_2008 : K 38 2008 = [] := rfl
@[simp] theorem K38_2005 : K 38 2005 = [] := rfl
@[simp] theorem K38_2004 : K 38 2004 = [] := rfl
@[simp] theorem K38_2009 : K 38 2009 = [] := rfl
@[simp] theorem K39_2000 : K 39 2000 = [] := rfl
@[simp] theorem K39_2001 : K 39 2001 = [] := rfl
@[simp] theorem K39_2002 : K 39 2002 = [] := rfl
@[simp] theorem K39_2003 : K 39 2003 = [] := rfl
@[simp] theorem K39_2004 : K 39 2004 = [] := rfl
@[simp] theorem K39_2005 : K 39 2005 = [] := rfl
@[simp] theorem K39_2006 : K 39 2006 = [] := rfl
@[simp] theorem K40_2000 : K 40 2000 = [] := rfl
@[simp] theorem K40_2001 : K 40 2001 = [] := rfl
@[simp] theorem K40_2002 : K 40 2002 = [] := rfl
@[simp] theorem K40_2003 : K 40 2003 = [] := rfl
@[simp] theorem K40_2004 : K 40 2004 = [] := rfl
@[simp] theorem K40_2006 : K 40 2006 = [] := rfl
@[simp] theorem K40_2007 : K 40 2007 = [] := rfl
@[simp] theorem K40_2009 : K 40 2009 = [] := rfl
@[simp] theorem K40_2005 : K 40 2005 = [] := rfl
@[simp] theorem K40_2010 : K 40 2010 = [] := rfl
@[simp] theorem K41_2000 : K 41 2000 = [] := rfl
@[simp] theorem K41_2001 : K 41 2001 = [] := rfl
@[simp] theorem K41_2002 : K 41 2002 = [] := rfl
@[simp] theorem K41_2003 : K 41 2003 = [] := rfl
@[simp] theorem K41_2005 : K 41 2005 = [] := rfl
@[simp] theorem K41_2004 : K 41 2004 = [] := rfl
@[simp] theorem K41_2006 : K 41 2006 = [] := rfl
@[simp] theorem K42_2000 : K 42 2000 = [] := rfl
@[simp] theorem K42_2001 : K 42 2001 = [] := rfl
@[simp] theorem K42_2002 : K 42 2002 = [] := rfl
@[simp] theorem K42_2003 : K 42 2003 = [] := rfl
@[simp] theorem K42_2004 : K 42 2004 = [] := rfl
@[simp] theorem K42_2005 : K 42 2005 = [] := rfl
@[simp] theorem K43_2000 : K 43 2000 = [] := rfl
@[simp] theorem K43_2001 : K 43 2001 = [] := rfl
@[simp] theorem K44_2000 : K 44 2000 = [] := rfl
@[simp] theorem K44_2001 : K 44 2001 = [] := rfl
@[simp] theorem K45_2000 : K 45 2000 = [] := rfl
@[simp] theorem K46_2000 : K 46 2000 = [] := rfl
@[simp] theorem K46_2001 : K 46 2001 = [] := rfl
@[simp] theorem K47_2000 : K 47 2000 = [] := rfl
@[simp] theorem K47_2001 : K 47 2001 = [] := rfl
@[simp] theorem K48_2000 : K 48 2000 = [] := rfl
@[simp] theorem K48_2001 : K 48 2001 = [] := rfl
@[simp] theorem K48_2002 : K 48 2002 = [] := rfl
@[simp] theorem K48_2003 : K 48 2003 = [] := rfl
@[simp] theorem K49_2000 : K 49 2000 = [] := rfl
@[simp] theorem K49_2001 : K 49 2001 = [] := rfl
@[simp] theorem K49_2002 : K 49 2002 = [] := rfl
@[simp] theorem K49_2003 : K 49 2003 = [] := rfl
@[simp] theorem K49_2004 : K 49 2004 = [] := rfl
@[simp] theorem K49_2006 : K 49 2006 = [] := rfl
@[simp] theorem K49_2007 : K 49 2007 = [] := rfl
@[simp] theorem K49_2005 : K 49 2005 = [] := rfl
@[simp] theorem K49_2008 : K 49 2008 = [] := rfl
@[simp] theorem K50_2000 : K 50 2000 = [] := rfl
@[simp] theorem K50_2001 : K 50 2001 = [] := rfl
@[simp] theorem K51_2000 : K 51 2000 = [] := rfl
@[simp] theorem K51_2001 : K 51 2001 = [] := rfl
@[simp] theorem K51_2002 : K 51 2002 = [] := rfl
@[simp] theorem K51_2003 : K 51 2003 = [] := rfl
@[simp] theorem K51_2004 : K 51 2004 = [] := rfl
@[simp] theorem K51_2005 : K 51 2005 = [] := rfl
@[simp] theorem K51_2006 : K 51 2006 = [] := rfl
@[simp] theorem K51_2007 : K 51 2007 = [] := rfl
@[simp] theorem K51_2008 : K 51 2008 = [] := rfl
@[simp] theorem K52_2000 : K 52 2000 = [] := rfl
@[simp] theorem K52_2001 : K 52 2001 = [] := rfl
@[simp] theorem K52_2002 : K 52 2002 = [] := rfl
@[simp] theorem K52_2003 : K 52 2003 = [] := rfl
@[simp] theorem K53_2000 : K 53 2000 = [] := rfl
@[simp] theorem K53_2001 : K 53 2001 = [] := rfl
@[simp] theorem K54_2000 : K 54 2000 = [] := rfl
@[simp] theorem K54_2001 : K 54 2001 = [] := rfl
@[simp] theorem K55_2000 : K 55 2000 = [] := rfl
@[simp] theorem K55_2001 : K 55 2001 = [] := rfl
@[simp] theorem K56_2000 : K 56 2000 = [] := rfl
@[simp] theorem K56_2001 : K 56 2001 = [] := rfl
@[simp] theorem K56_2002 : K 56 2002 = [] := rfl
@[simp] theorem K56_2003 : K 56 2003 = [] := rfl
@[simp] theorem K57_2000 : K 57 2000 = [] := rfl
@[simp] theorem K57_2001 : K 57 2001 = [] := rfl
@[simp] theorem K57_2002 : K 57 2002 = [] := rfl
@[simp] theorem K57_2003 : K 57 2003 = [] := rfl
@[simp] theorem K57_2004 : K 57 2004 = [] := rfl
@[simp] theorem K57_2005 : K 57 2005 = [] := rfl
@[simp] theorem K57_2006 : K 57 2006 = [] := rfl
@[simp] theorem K57_2007 : K 57 2007 = [] := rfl
@[simp] theorem K57_2008 : K 57 2008 = [] := rfl
@[simp] theorem K57_2010 : K 57 2010 = [] := rfl
@[simp] theorem K58_2000 : K 58 2000 = [] := rfl
@[simp] theorem K58_2001 : K 58 2001 = [] := rfl
@[simp] theorem K58_2002 : K 58 2002 = [] := rfl
@[simp] theorem K58_2003 : K 58 2003 = [] := rfl
@[simp] theorem K58_2004 : K 58 2004 = [] := rfl
@[simp] theorem K58_2005 : K 58 2005 = [] := rfl
@[simp] theorem K58_2006 : K 58 2006 = [] := rfl
@[simp] theorem K58_2007 : K 58 2007 = [] := rfl
@[simp] theorem K58_2009 : K 58 2009 = [] := rfl
@[simp] theorem K58_2010 : K 58 2010 = [] := rfl
@[simp] theorem K59_2000 : K 59 2000 = [] := rfl
@[simp] theorem K59_2001 : K 59 2001 = [] := rfl
@[simp] theorem K59_2002 : K 59 2002 = [] := rfl
@[simp] theorem K59_2003 : K 59 2003 = [] := rfl
@[simp] theorem K60_2000 : K 60 2000 = [] := rfl
@[simp] theorem K60_2001 : K 60 2001 = [] := rfl
@[simp] theorem K60_2002 : K 60 2002 = [] := rfl
@[simp] theorem K60_2003 : K 60 2003 = [] := rfl
@[simp] theorem K60_2004 : K 60 2004 = [] := rfl
@[simp] theorem K60_2005 : K 60 2005 = [] := rfl
@[simp] theorem K60_2006 : K 60 2006 = [] := rfl
@[simp] theorem K60_2008 : K 60 2008 = [] := rfl
@[simp] theorem K60_2009 : K 60 2009 = [] := rfl
@[simp] theorem K61_2000 : K 61 2000 = [] := rfl
@[simp] theorem K61_2001 : K 61 2001 = [] := rfl
@[simp] theorem K61_2002 : K 61 2002 = [] := rfl
@[simp] theorem K61_2003 : K 61 2003 = [] := rfl
@[simp] theorem K61_2004 : K 61 2004 = [] := rfl
@[simp] theorem K61_2005 : K 61 2005 = [] := rfl
@[simp] theorem K61_2006 : K 61 2006 = [] := rfl
@[simp] theorem K61_2007 : K 61 2007 = [] := rfl
@[simp] theorem K61_2008 : K 61 2008 = [] := rfl
@[simp] theorem K61_2009 : K 61 2009 = [] := rfl
@[simp] theorem K62_2000 : K 62 2000 = [] := rfl
@[simp] theorem K62_2001 : K 62 2001 = [] := rfl
@[simp] theorem K62_2002 : K 62 2002 = [] := rfl
@[simp] theorem K62_2003 : K 62 2003 = [] := rfl
@[simp] theorem K63_2000 : K 63 2000 = [] := rfl
@[simp] theorem K63_2001 : K 63 2001 = [] := rfl
@[simp] theorem K64_2000 : K 64 2000 = [] := rfl
@[simp] theorem K64_2001 : K 64 2001 = [] := rfl
@[simp] theorem K65_2000 : K 65 2000 = [] := rfl
@[simp] theorem K65_2001 : K 65 2001 = [] := rfl
@[simp] theorem K65_2002 : K 65 2002 = [] := rfl
@[simp] theorem K65_2003 : K 65 2003 = [] := rfl
@[simp] theorem K66_2000 : K 66 2000 = [] := rfl
@[simp] theorem K66_2001 : K 66 2001 = [] := rfl
@[simp] theorem K66_2002 : K 66 2002 = [] := rfl
@[simp] theorem K66_2003 : K 66 2003 = [] := rfl
@[simp] theorem K67_2000 : K 67 2000 = [] := rfl
@[simp] theorem K67_2001 : K 67 2001 = [] := rfl
@[simp] theorem K67_2002 : K 67 2002 = [] := rfl
@[simp] theorem K67_2003 : K 67 2003 = [] := rfl
@[simp] theorem K67_2004 : K 67 2004 = [] := rfl
@[simp] theorem K67_2005 : K 67 2005 = [] := rfl
@[simp] theorem K67_2006 : K 67 2006 = [] := rfl
@[simp] theorem K67_2007 : K 67 2007 = [] := rfl
@[simp] theorem K68_2000 : K 68 2000 = [] := rfl
@[simp] theorem K68_2001 : K 68 2001 = [] := rfl
@[simp] theorem K68_2002 : K 68 2002 = [] := rfl
@[simp] theorem K68_2003 : K 68 2003 = [] := rfl
@[simp] theorem K68_2004 : K 68 2004 = [] := rfl
@[simp] theorem K69_2000 : K 69 2000 = [] := rfl
@[simp] theorem K69_2001 : K 69 2001 = [] := rfl
@[simp] theorem K69_2002 : K 69 2002 = [] := rfl
@[simp] theorem K69_2003 : K 69 2003 = [] := rfl
@[simp] theorem K70_2000 : K 70 2000 = [] := rfl
@[simp] theorem K70_2001 : K 70 2001 = [] := rfl
@[simp] theorem K70_2002 : K 70 2002 = [] := rfl
@[simp] theorem K71_2000 : K 71 2000 = [] := rfl
@[simp] theorem K71_2001 : K 71 2001 = [] := rfl
@[simp] theorem K71_2002 : K 71 2002 = [] := rfl
@[simp] theorem K71_2003 : K 71 2003 = [] := rfl
@[simp] theorem K71_2004 : K 71 2004 = [] := rfl
@[simp] theorem K71_2005 : K 71 2005 = [] := rfl
@[simp] theorem K71_2006 : K 71 2006 = [] := rfl
@[simp] theorem K71_2007 : K 71 2007 = [] := rfl
@[simp] theorem K71_2008 : K 71 2008 = [] := rfl
@[simp] theorem K71_2009 : K 71 2009 = [] := rfl
@[simp] theorem K71_2010 : K 71 2010 = [] := rfl
@[simp] theorem K71_2011 : K 71 2011 = [] := rfl
@[simp] theorem K9_1010 : K 9 1010 = [] := rfl
@[simp] theorem K11_1006 : K 11 1006 = [] := rfl
@[simp] theorem K12_1006 : K 12 1006 = [] := rfl
@[simp] theorem K19_1004 : K 19 1004 = [] := rfl
@[simp] theorem K20_1008 : K 20 1008 = [] := rfl
@[simp] theorem K25_1004 : K 25 1004 = [] := rfl
@[simp] theorem K26_1008 : K 26 1008 = [] := rfl
@[simp] theorem K26_1010 : K 26 1010 = [] := rfl
@[simp] theorem K26_1012 : K 26 1012 = [] := rfl
@[simp] theorem K28_1006 : K 28 1006 = [] := rfl
@[simp] theorem K36_1001 : K 36 1001 = [] := rfl
@[simp] theorem K40_1008 : K 40 1008 = [] := rfl
@[simp] theorem K45_1001 : K 45 1001 = [] := rfl
@[simp] theorem K57_1009 : K 57 1009 = [] := rfl
@[simp] theorem K58_1008 : K 58 1008 = [] := rfl
@[simp] theorem K60_1007 : K 60 1007 = [] := rfl
@[simp] theorem BL3 : BL 3 = none := rfl
@[simp] theorem WR3 : WR 3 = false := rfl
@[simp] theorem OW3 : OW 3 = false := rfl
@[simp] theorem BL4 : BL 4 = none := rfl
@[simp] theorem WR4 : WR 4 = false := rfl
@[simp] theorem OW4 : OW 4 = false := rfl
@[simp] theorem BL5 : BL 5 = none := rfl
@[simp] theorem WR5 : WR 5 = false := rfl
@[simp] theorem OW5 : OW 5 = false := rfl
@[simp] theorem BL6 : BL 6 = none := rfl
@[simp] theorem WR6 : WR 6 = false := rfl
@[simp] theorem OW6 : OW 6 = false := rfl
@[simp] theorem BL7 : BL 7 = none := rfl
@[simp] theorem WR7 : WR 7 = false := rfl
@[simp] theorem OW7 : OW 7 = false := rfl
@[simp] theorem BL8 : BL 8 = some (9, 0, 0) := rfl
@[simp] theorem WR8 : WR 8 = false := rfl
@[simp] theorem OW8 : OW 8 = false := rfl
@[simp] theorem BL9 : BL 9 = none := rfl
@[simp] theorem WR9 : WR 9 = false := rfl
@[simp] theorem OW9 : OW 9 = false := rfl
@[simp] theorem BL10 : BL 10 = none := rfl
@[simp] theorem WR10 : WR 10 = false := rfl
@[simp] theorem OW10 : OW 10 = false := rfl
@[simp] theorem BL11 : BL 11 = none := rfl
@[simp] theorem WR11 : WR 11 = false := rfl
@[simp] theorem OW11 : OW 11 = false := rfl
@[simp] theorem BL12 : BL 12 = none := rfl
@[simp] theorem WR12 : WR 12 = false := rfl
@[simp] theorem OW12 : OW 12 = false := rfl
@[simp] theorem BL13 : BL 13 = none := rfl
@[simp] theorem WR13 : WR 13 = true := rfl
@[simp] theorem OW13 : OW 13 = true := rfl
@[simp] theorem BL14 : BL 14 = some (9, 0, 0) := rfl
@[simp] theorem WR14 : WR 14 = true := rfl
@[simp] theorem OW14 : OW 14 = true := rfl
@[simp] theorem BL15 : BL 15 = none := rfl
@[simp] theorem WR15 : WR 15 = true := rfl
@[simp] theorem OW15 : OW 15 = true := rfl
@[simp] theorem BL16 : BL 16 = none := rfl
@[simp] theorem WR16 : WR 16 = false := rfl
@[simp] theorem OW16 : OW 16 = false := rfl
@[simp] theorem BL17 : BL 17 = none := rfl
@[simp] theorem WR17 : WR 17 = false := rfl
@[simp] theorem OW17 : OW 17 = false := rfl
@[simp] theorem BL18 : BL 18 = none := rfl
@[simp] theorem WR18 : WR 18 = false := rfl
@[simp] theorem OW18 : OW 18 = false := rfl
@[simp] theorem BL19 : BL 19 = none := rfl
@[simp] theorem WR19 : WR 19 = false := rfl
@[simp] theorem OW19 : OW 19 = false := rfl
@[simp] theorem BL20 : BL 20 = none := rfl
@[simp] theorem WR20 : WR 20 = false := rfl
@[simp] theorem OW20 : OW 20 = false := rfl
@[simp] theorem BL21 : BL 21 = none := rfl
@[simp] theorem WR21 : WR 21 = false := rfl
@[simp] theorem OW21 : OW 21 = false := rfl
@[simp] theorem BL22 : BL 22 = none := rfl
@[simp] theorem WR22 : WR 22 = false := rfl
@[simp] theorem OW22 : OW 22 = false := rfl
@[simp] theorem BL23 : BL 23 = none := rfl
@[simp] theorem WR23 : WR 23 = false := rfl
@[simp] theorem OW23 : OW 23 = false := rfl
@[simp] theorem BL24 : BL 24 = none := rfl
@[simp] theorem WR24 : WR 24 = false := rfl
@[simp] theorem OW24 : OW 24 = false := rfl
@[simp] theorem BL25 : BL 25 = none := rfl
@[simp] theorem WR25 : WR 25 = false := rfl
@[simp] theorem OW25 : OW 25 = false := rfl
@[simp] theorem BL26 : BL 26 = none := rfl
@[simp] theorem WR26 : WR 26 = false := rfl
@[simp] theorem OW26 : OW 26 = false := rfl
@[simp] theorem BL27 : BL 27 = none := rfl
@[simp] theorem WR27 : WR 27 = false := rfl
@[simp] theorem OW27 : OW 27 = false := rfl
@[simp] theorem BL28 : BL 28 = none := rfl
@[simp] theorem WR28 : WR 28 = false := rfl
@[simp] theorem OW28 : OW 28 = false := rfl
@[simp] theorem BL29 : BL 29 = none := rfl
@[simp] theorem WR29 : WR 29 = false := rfl
@[simp] theorem OW29 : OW 29 = false := rfl
@[simp] theorem BL30 : BL 30 = none := rfl
@[simp] theorem WR30 : WR 30 = true := rfl
@[simp] theorem OW30 : OW 30 = true := rfl
@[simp] theorem BL31 : BL 31 = none := rfl
@[simp] theorem WR31 : WR 31 = false := rfl
@[simp] theorem OW31 : OW 31 = false := rfl
@[simp] theorem BL32 : BL 32 = none := rfl
@[simp] theorem WR32 : WR 32 = false := rfl
@[simp] theorem OW32 : OW 32 = false := rfl
@[simp] theorem BL33 : BL 33 = none := rfl
@[simp] theorem WR33 : WR 33 = false := rfl
@[simp] theorem OW33 : OW 33 = false := rfl
@[simp] theorem BL34 : BL 34 = none := rfl
@[simp] theorem WR34 : WR 34 = false := rfl
@[simp] theorem OW34 : OW 34 = false := rfl
@[simp] theorem BL35 : BL 35 = none := rfl
@[simp] theorem WR35 : WR 35 = false := rfl
@[simp] theorem OW35 : OW 35 = false := rfl
@[simp] theorem BL36 : BL 36 = none := rfl
@[simp] theorem WR36 : WR 36 = false := rfl
@[simp] theorem OW36 : OW 36 = false := rfl
@[simp] theorem BL37 : BL 37 = none := rfl
@[simp] theorem WR37 : WR 37 = false := rfl
@[simp] theorem OW37 : OW 37 = false := rfl
@[simp] theorem BL38 : BL 38 = none := rfl
@[simp] theorem WR38 : WR 38 = false := rfl
@[simp] theorem OW38 : OW 38 = false := rfl
@[simp] theorem BL39 : BL 39 = none := rfl
@[simp] theorem WR39 : WR 39 = false := rfl
@[simp] theorem OW39 : OW 39 = false := rfl
@[simp] theorem BL40 : BL 40 = none := rfl
@[simp] theorem WR40 : WR 40 = false := rfl
@[simp] theorem OW40 : OW 40 = false := rfl
@[simp] theorem BL41 : BL 41 = none := rfl
@[simp] theorem WR41 : WR 41 = false := rfl
@[simp] theorem OW41 : OW 41 = false := rfl
@[simp] theorem BL42 : BL 42 = none := rfl
@[simp] theorem WR42 : WR 42 = false := rfl
@[simp] theorem OW42 : OW 42 = false := rfl
@[simp] theorem BL43 : BL 43 = none := rfl
@[simp] theorem WR43 : WR 43 = false := rfl
@[simp] theorem OW43 : OW 43 = false := rfl
@[simp] theorem BL44 : BL 44 = none := rfl
@[simp] theorem WR44 : WR 44 = false := rfl
@[simp] theorem OW44 : OW 44 = false := rfl
@[simp] theorem BL45 : BL 45 = none := rfl
@[simp] theorem WR45 : WR 45 = false := rfl
@[simp] theorem OW45 : OW 45 = false := rfl
@[simp] theorem BL46 : BL 46 = none := rfl
@[simp] theorem WR46 : WR 46 = false := rfl
@[simp] theorem OW46 : OW 46 = false := rfl
@[simp] theorem BL47 : BL 47 = none := rfl
@[simp] theorem WR47 : WR 47 = false := rfl
@[simp] theorem OW47 : OW 47 = false := rfl
@[simp] theorem BL48 : BL 48 = none := rfl
@[simp] theorem WR48 : WR 48 = false := rfl
@[simp] theorem OW48 : OW 48 = false := rfl
@[simp] theorem BL49 : BL 49 = none := rfl
@[simp] theorem WR49 : WR 49 = false := rfl
@[simp] theorem OW49 : OW 49 = false := rfl
@[simp] theorem BL50 : BL 50 = none := rfl
@[simp] theorem WR50 : WR 50 = false := rfl
@[simp] theorem OW50 : OW 50 = false := rfl
@[simp] theorem BL51 : BL 51 = none := rfl
@[simp] theorem WR51 : WR 51 = false := rfl
@[simp] theorem OW51 : OW 51 = false := rfl
@[simp] theorem BL52 : BL 52 = none := rfl
@[simp] theorem WR52 : WR 52 = true := rfl
@[simp] theorem OW52 : OW 52 = true := rfl
@[simp] theorem BL53 : BL 53 = none := rfl
@[simp] theorem WR53 : WR 53 = false := rfl
@[simp] theorem OW53 : OW 53 = false := rfl
@[simp] theorem BL54 : BL 54 = none := rfl
@[simp] theorem WR54 : WR 54 = false := rfl
@[simp] theorem OW54 : OW 54 = false := rfl
@[simp] theorem BL55 : BL 55 = none := rfl
@[simp] theorem WR55 : WR 55 = false := rfl
@[simp] theorem OW55 : OW 55 = false := rfl
@[simp] theorem BL56 : BL 56 = none := rfl
@[simp] theorem WR56 : WR 56 = false := rfl
@[simp] theorem OW56 : OW 56 = false := rfl
@[simp] theorem BL57 : BL 57 = none := rfl
@[simp] theorem WR57 : WR 57 = false := rfl
@[simp] theorem OW57 : OW 57 = false := rfl
@[simp] theorem BL58 : BL 58 = none := rfl
@[simp] theorem WR58 : WR 58 = false := rfl
@[simp] theorem OW58 : OW 58 = false := rfl
@[simp] theorem BL59 : BL 59 = none := rfl
@[simp] theorem WR59 : WR 59 = false := rfl
@[simp] theorem OW59 : OW 59 = false := rfl
@[simp] theorem BL60 : BL 60 = none := rfl
@[simp] theorem WR60 : WR 60 = false := rfl
@[simp] theorem OW60 : OW 60 = false := rfl
@[simp] theorem BL61 : BL 61 = none := rfl
@[simp] theorem WR61 : WR 61 = false := rfl
@[simp] theorem OW61 : OW 61 = false := rfl
@[simp] theorem BL62 : BL 62 = none := rfl
@[simp] theorem WR62 : WR 62 = false := rfl
@[simp] theorem OW62 : OW 62 = false := rfl
@[simp] theorem BL63 : BL 63 = none := rfl
@[simp] theorem WR63 : WR 63 = false := rfl
@[simp] theorem OW63 : OW 63 = false := rfl
@[simp] theorem BL64 : BL 64 = none := rfl
@[simp] theorem WR64 : WR 64 = false := rfl
@[simp] theorem OW64 : OW 64 = false := rfl
@[simp] theorem BL65 : BL 65 = none := rfl
@[simp] theorem WR65 : WR 65 = false := rfl
@[simp] theorem OW65 : OW 65 = false := rfl
@[simp] theorem BL66 : BL 66 = none := rfl
@[simp] theorem WR66 : WR 66 = false := rfl
@[simp] theorem OW66 : OW 66 = false := rfl
@[simp] theorem BL67 : BL 67 = none := rfl
@[simp] theorem WR67 : WR 67 = false := rfl
@[simp] theorem OW67 : OW 67 = false := rfl
@[simp] theorem BL68 : BL 68 = none := rfl
@[simp] theorem WR68 : WR 68 = false := rfl
@[simp] theorem OW68 : OW 68 = false := rfl
@[simp] theorem BL69 : BL 69 = none := rfl
@[simp] theorem WR69 : WR 69 = true := rfl
@[simp] theorem OW69 : OW 69 = true := rfl
@[simp] theorem BL70 : BL 70 = none := rfl
@[simp] theorem WR70 : WR 70 = false := rfl
@[simp] theorem OW70 : OW 70 = false := rfl
@[simp] theorem BL71 : BL 71 = none := rfl
@[simp] theorem WR71 : WR 71 = false := rfl
@[simp] theorem OW71 : OW 71 = false := rfl
@[simp] theorem WRt3 : WR 1000003 = false := rfl
@[simp] theorem WRt4 : WR 1000004 = false := rfl
@[simp] theorem WRt22 : WR 1000022 = false := rfl
@[simp] theorem WRt23 : WR 1000023 = false := rfl
@[simp] theorem WRt26 : WR 1000026 = false := rfl
@[simp] theorem WRt28 : WR 1000028 = false := rfl
@[simp] theorem WRt31 : WR 1000031 = false := rfl
@[simp] theorem WRt33 : WR 1000033 = false := rfl
@[simp] theorem WRt43 : WR 1000043 = false := rfl
@[simp] theorem WRt48 : WR 1000048 = false := rfl
@[simp] theorem WRt50 : WR 1000050 = false := rfl
@[simp] theorem WRt70 : WR 1000070 = false := rfl
@[simp] theorem WRt73 : WR 1000073 = false := rfl
@[simp] theorem WRt75 : WR 1000075 = false := rfl
@[simp] theorem WRt78 : WR 1000078 = false := rfl
@[simp] theorem WRt82 : WR 1000082 = false := rfl
@[simp] theorem WRt85 : WR 1000085 = false := rfl
noncomputable def F_0 : FuncId → Option Func
  | 3 => some Try.f3
  | 4 => some Try.f4
  | 5 => some Try.f5
  | 6 => some Try.f6
  | 7 => some Try.f7
  | 8 => some Try.f8
  | 9 => some Try.f9
  | 10 => some Try.f10
  | 11 => some Try.f11
  | 12 => some Try.f12
  | 13 => some Try.f13
  | 14 => some Try.f14
  | 15 => some Try.f15
  | 16 => some Try.f16
  | 17 => some Try.f17
  | 18 => some Try.f18
  | 19 => some Try.f19
  | 20 => some Try.f20
  | 21 => some Try.f21
  | 22 => some Try.f22
  | 23 => some Try.f23
  | 24 => some Try.f24
  | 25 => some Try.f25
  | 26 => some Try.f26
  | f => none
noncomputable def F_1 : FuncId → Option Func
  | 27 => some Try.f27
  | 28 => some Try.f28
  | 29 => some Try.f29
  | 30 => some Try.f30
  | 31 => some Try.f31
  | 32 => some Try.f32
  | 33 => some Try.f33
  | 34 => some Try.f34
  | 35 => some Try.f35
  | 36 => some Try.f36
  | 37 => some Try.f37
  | 38 => some Try.f38
  | 39 => some Try.f39
  | 40 => some Try.f40
  | 41 => some Try.f41
  | 42 => some Try.f42
  | 43 => some Try.f43
  | 44 => some Try.f44
  | 45 => some Try.f45
  | 46 => some Try.f46
  | 47 => some Try.f47
  | 48 => some Try.f48
  | 49 => some Try.f49
  | 50 => some Try.f50
  | f => F_0 f
noncomputable def F_2 : FuncId → Option Func
  | 51 => some Try.f51
  | 52 => some Try.f52
  | 53 => some Try.f53
  | 54 => some Try.f54
  | 55 => some Try.f55
  | 56 => some Try.f56
  | 57 => some Try.f57
  | 58 => some Try.f58
  | 59 => some Try.f59
  | 60 => some Try.f60
  | 61 => some Try.f61
  | 62 => some Try.f62
  | 63 => some Try.f63
  | 64 => some Try.f64
  | 65 => some Try.f65
  | 66 => some Try.f66
  | 67 => some Try.f67
  | 68 => some Try.f68
  | 69 => some Try.f69
  | 70 => some Try.f70
  | 71 => some Try.f71
  | f => F_1 f
noncomputable def F : FuncId → Option Func := F_2
theorem F3 : F 3 = some Try.f3 := rfl
theorem chk3 : ∀ c, Try.f3.body = some c → chk WR (K 3) Try.f3.ntmps c = true := by intro c h; cases h; decide +kernel
theorem F4 : F 4 = some Try.f4 := rfl
theorem chk4 : ∀ c, Try.f4.body = some c → chk WR (K 4) Try.f4.ntmps c = true := by intro c h; cases h; decide +kernel
theorem F5 : F 5 = some Try.f5 := rfl
theorem chk5 : ∀ c, Try.f5.body = some c → chk WR (K 5) Try.f5.ntmps c = true := by intro c h; cases h; decide +kernel
theorem F6 : F 6 = some Try.f6 := rfl
theorem chk6 : ∀ c, Try.f6.body = some c → chk WR (K 6) Try.f6.ntmps c = true := by intro c h; cases h; decide +kernel
theorem F7 : F 7 = some Try.f7 := rfl
theorem chk7 : ∀ c, Try.f7.body = some c → chk WR (K 7) Try.f7.ntmps c = true := by intro c h; cases h; decide +kernel
theorem F8 : F 8 = some Try.f8 := rfl
theorem chk8 : ∀ c, Try.f8.body = some c → chk WR (K 8) Try.f8.ntmps c = true := by intro c h; cases h; decide +kernel
theorem F9 : F 9 = some Try.f9 := rfl
theorem chk9 : ∀ c, Try.f9.body = some c → chk WR (K 9) Try.f9.ntmps c = true := by intro c h; cases h; decide +kernel
theorem F10 : F 10 = some Try.f10 := rfl
theorem chk10 : ∀ c, Try.f10.body = some c → chk WR (K 10) Try.f10.ntmps c = true := by intro c h; cases h; decide +kernel
theorem F11 : F 11 = some Try.f11 := rfl
theorem chk11 : ∀ c, Try.f11.body = some c → chk WR (K 11) Try.f11.ntmps c = true := by intro c h; cases h; decide +kernel
theorem F12 : F 12 = some Try.f12 := rfl
theorem chk12 : ∀ c, Try.f12.body = some c → chk WR (K 12) Try.f12.ntmps c = true := by intro c h; cases h; decide +kernel
theorem F13 : F 13 = some Try.f13 := rfl
theorem chk13 : ∀ c, Try.f13.body = some c → chk WR (K 13) Try.f13.ntmps c = true := by intro c h; cases h; decide +kernel
theorem F14 : F 14 = some Try.f14 := rfl
theorem chk14 : ∀ c, Try.f14.body = some c → chk WR (K 14) Try.f14.ntmps c = true := by intro c h; cases h; decide +kernel
theorem F15 : F 15 = some Try.f15 := rfl
theorem chk15 : ∀ c, Try.f15.body = some c → chk WR (K 15) Try.f15.ntmps c = true := by intro c h; cases h; decide +kernel
theorem F16 : F 16 = some Try.f16 := rfl
theorem chk16 : ∀ c, Try.f16.body = some c → chk WR (K 16) Try.f16.ntmps c = true := by intro c h; cases h; decide +kernel
theorem F17 : F 17 = some Try.f17 := rfl
theorem chk17 : ∀ c, Try.f17.body = some c → chk WR (K 17) Try.f17.ntmps c = true := by intro c h; cases h; decide +kernel
theorem F18 : F 18 = some Try.f18 := rfl
theorem chk18 : ∀ c, Try.f18.body = some c → chk WR (K 18) Try.f18.ntmps c = true := by intro c h; cases h; decide +kernel
theorem F19 : F 19 = some Try.f19 := rfl
theorem chk19 : ∀ c, Try.f19.body = some c → chk WR (K 19) Try.f19.ntmps c = true := by intro c h; cases h; decide +kernel
theorem F20 : F 20 = some Try.f20 := rfl
theorem chk20 : ∀ c, Try.f20.body = some c → chk WR (K 20) Try.f20.ntmps c = true := by intro c h; cases h; decide +kernel
theorem F21 : F 21 = some Try.f21 := rfl
theorem chk21 : ∀ c, Try.f21.body = some c → chk WR (K 21) Try.f21.ntmps c = true := by intro c h; cases h; decide +kernel
theorem F22 : F 22 = some Try.f22 := rfl
theorem chk22 : ∀ c, Try.f22.body = some c → chk WR (K 22) Try.f22.ntmps c = true := by intro c h; cases h; decide +kernel
theorem F23 : F 23 = some Try.f23 := rfl
theorem chk23 : ∀ c, Try.f23.body = some c → chk WR (K 23) Try.f23.ntmps c = true := by intro c h; cases h; decide +kernel
theorem F24 : F 24 = some Try.f24 := rfl
theorem chk24 : ∀ c, Try.f24.body = some c → chk WR (K 24) Try.f24.ntmps c = true := by intro c h; cases h; decide +kernel
theorem F25 : F 25 = some Try.f25 := rfl
theorem chk25 : ∀ c, Try.f25.body = some c → chk WR (K 25) Try.f25.ntmps c = true := by intro c h; cases h; decide +kernel
theorem F26 : F 26 = some Try.f26 := rfl
theorem chk26 : ∀ c, Try.f26.body = some c → chk WR (K 26) Try.f26.ntmps c = true := by intro c h; cases h; decide +kernel
theorem F27 : F 27 = some Try.f27 := rfl
theorem chk27 : ∀ c, Try.f27.body = some c → chk WR (K 27) Try.f27.ntmps c = true := by intro c h; cases h; decide +kernel
theorem F28 : F 28 = some Try.f28 := rfl
theorem chk28 : ∀ c, Try.f28.body = some c → chk WR (K 28) Try.f28.ntmps c = true := by intro c h; cases h; decide +kernel
theorem F29 : F 29 = some Try.f29 := rfl
theorem chk29 : ∀ c, Try.f29.body = some c → chk WR (K 29) Try.f29.ntmps c = true := by intro c h; cases h; decide +kernel
theorem F30 : F 30 = some Try.f30 := rfl
theorem chk30 : ∀ c, Try.f30.body = some c → chk WR (K 30) Try.f30.ntmps c = true := by intro c h; cases h; decide +kernel
theorem F31 : F 31 = some Try.f31 := rfl
theorem chk31 : ∀ c, Try.f31.body = some c → chk WR (K 31) Try.f31.ntmps c = true := by intro c h; cases h; decide +kernel
theorem F32 : F 32 = some Try.f32 := rfl
theorem chk32 : ∀ c, Try.f32.body = some c → chk WR (K 32) Try.f32.ntmps c = true := by intro c h; cases h; decide +kernel
theorem F33 : F 33 = some Try.f33 := rfl
theorem chk33 : ∀ c, Try.f33.body = some c → chk WR (K 33) Try.f33.ntmps c = true := by intro c h; cases h; decide +kernel
theorem F34 : F 34 = some Try.f34 := rfl
theorem chk34 : ∀ c, Try.f34.body = some c → chk WR (K 34) Try.f34.ntmps c = true := by intro c h; cases h; decide +kernel
theorem F35 : F 35 = some Try.f35 := rfl
theorem chk35 : ∀ c, Try.f35.body = some c → chk WR (K 35) Try.f35.ntmps c = true := by intro c h; cases h; decide +kernel
theorem F36 : F 36 = some Try.f36 := rfl
theorem chk36 : ∀ c, Try.f36.body = some c → chk WR (K 36) Try.f36.ntmps c = true := by intro c h; cases h; decide +kernel
theorem F37 : F 37 = some Try.f37 := rfl
theorem chk37 : ∀ c, Try.f37.body = some c → chk WR (K 37) Try.f37.ntmps c = true := by intro c h; cases h; decide +kernel
theorem F38 : F 38 = some Try.f38 := rfl
theorem chk38 : ∀ c, Try.f38.body = some c → chk WR (K 38) Try.f38.ntmps c = true := by intro c h; cases h; decide +kernel
theorem F39 : F 39 = some Try.f39 := rfl
theorem chk39 : ∀ c, Try.f39.body = some c → chk WR (K 39) Try.f39.ntmps c = true := by intro c h; cases h; decide +kernel
theorem F40 : F 40 = some Try.f40 := rfl
theorem chk40 : ∀ c, Try.f40.body = some c → chk WR (K 40) Try.f40.ntmps c = true := by intro c h; cases h; decide +kernel
theorem F41 : F 41 = some Try.f41 := rfl
theorem chk41 : ∀ c, Try.f41.body = some c → chk WR (K 41) Try.f41.ntmps c = true := by intro c h; cases h; decide +kernel
theorem F42 : F 42 = some Try.f42 := rfl
theorem chk42 : ∀ c, Try.f42.body = some c → chk WR (K 42) Try.f42.ntmps c = true := by intro c h; cases h; decide +kernel
theorem F43 : F 43 = some Try.f43 := rfl
theorem chk43 : ∀ c, Try.f43.body = some c → chk WR (K 43) Try.f43.ntmps c = true := by intro c h; cases h; decide +kernel
theorem F44 : F 44 = some Try.f44 := rfl
theorem chk44 : ∀ c, Try.f44.body = some c → chk WR (K 44) Try.f44.ntmps c = true := by intro c h; cases h; decide +kernel
theorem F45 : F 45 = some Try.f45 := rfl
theorem chk45 : ∀ c, Try.f45.body = some c → chk WR (K 45) Try.f45.ntmps c = true := by intro c h; cases h; decide +kernel
theorem F46 : F 46 = some Try.f46 := rfl
theorem chk46 : ∀ c, Try.f46.body = some c → chk WR (K 46) Try.f46.ntmps c = true := by intro c h; cases h; decide +kernel
theorem F47 : F 47 = some Try.f47 := rfl
theorem chk47 : ∀ c, Try.f47.body = some c → chk WR (K 47) Try.f47.ntmps c = true := by intro c h; cases h; decide +kernel
theorem F48 : F 48 = some Try.f48 := rfl
theorem chk48 : ∀ c, Try.f48.body = some c → chk WR (K 48) Try.f48.ntmps c = true := by intro c h; cases h; decide +kernel
theorem F49 : F 49 = some Try.f49 := rfl
theorem chk49 : ∀ c, Try.f49.body = some c → chk WR (K 49) Try.f49.ntmps c = true := by intro c h; cases h; decide +kernel
theorem F50 : F 50 = some Try.f50 := rfl
theorem chk50 : ∀ c, Try.f50.body = some c → chk WR (K 50) Try.f50.ntmps c = true := by intro c h; cases h; decide +kernel
theorem F51 : F 51 = some Try.f51 := rfl
theorem chk51 : ∀ c, Try.f51.body = some c → chk WR (K 51) Try.f51.ntmps c = true := by intro c h; cases h; decide +kernel
theorem F52 : F 52 = some Try.f52 := rfl
theorem chk52 : ∀ c, Try.f52.body = some c → chk WR (K 52) Try.f52.ntmps c = true := by intro c h; cases h; decide +kernel
theorem F53 : F 53 = some Try.f53 := rfl
theorem chk53 : ∀ c, Try.f53.body = some c → chk WR (K 53) Try.f53.ntmps c = true := by intro c h; cases h; decide +kernel
theorem F54 : F 54 = some Try.f54 := rfl
theorem chk54 : ∀ c, Try.f54.body = some c → chk WR (K 54) Try.f54.ntmps c = true := by intro c h; cases h; decide +kernel
theorem F55 : F 55 = some Try.f55 := rfl
theorem chk55 : ∀ c, Try.f55.body = some c → chk WR (K 55) Try.f55.ntmps c = true := by intro c h; cases h; decide +kernel
theorem F56 : F 56 = some Try.f56 := rfl
theorem chk56 : ∀ c, Try.f56.body = some c → chk WR (K 56) Try.f56.ntmps c = true := by intro c h; cases h; decide +kernel
theorem F57 : F 57 = some Try.f57 := rfl
theorem chk57 : ∀ c, Try.f57.body = some c → chk WR (K 57) Try.f57.ntmps c = true := by intro c h; cases h; decide +kernel
theorem F58 : F 58 = some Try.f58 := rfl
theorem chk58 : ∀ c, Try.f58.body = some c → chk WR (K 58) Try.f58.ntmps c = true := by intro c h; cases h; decide +kernel
theorem F59 : F 59 = some Try.f59 := rfl
theorem chk59 : ∀ c, Try.f59.body = some c → chk WR (K 59) Try.f59.ntmps c = true := by intro c h; cases h; decide +kernel
theorem F60 : F 60 = some Try.f60 := rfl
theorem chk60 : ∀ c, Try.f60.body = some c → chk WR (K 60) Try.f60.ntmps c = true := by intro c h; cases h; decide +kernel
theorem F61 : F 61 = some Try.f61 := rfl
theorem chk61 : ∀ c, Try.f61.body = some c → chk WR (K 61) Try.f61.ntmps c = true := by intro c h; cases h; decide +kernel
theorem F62 : F 62 = some Try.f62 := rfl
theorem chk62 : ∀ c, Try.f62.body = some c → chk WR (K 62) Try.f62.ntmps c = true := by intro c h; cases h; decide +kernel
theorem F63 : F 63 = some Try.f63 := rfl
theorem chk63 : ∀ c, Try.f63.body = some c → chk WR (K 63) Try.f63.ntmps c = true := by intro c h; cases h; decide +kernel
theorem F64 : F 64 = some Try.f64 := rfl
theorem chk64 : ∀ c, Try.f64.body = some c → chk WR (K 64) Try.f64.ntmps c = true := by intro c h; cases h; decide +kernel
theorem F65 : F 65 = some Try.f65 := rfl
theorem chk65 : ∀ c, Try.f65.body = some c → chk WR (K 65) Try.f65.ntmps c = true := by intro c h; cases h; decide +kernel
theorem F66 : F 66 = some Try.f66 := rfl
theorem chk66 : ∀ c, Try.f66.body = some c → chk WR (K 66) Try.f66.ntmps c = true := by intro c h; cases h; decide +kernel
theorem F67 : F 67 = some Try.f67 := rfl
theorem chk67 : ∀ c, Try.f67.body = some c → chk WR (K 67) Try.f67.ntmps c = true := by intro c h; cases h; decide +kernel
theorem F68 : F 68 = some Try.f68 := rfl
theorem chk68 : ∀ c, Try.f68.body = some c → chk WR (K 68) Try.f68.ntmps c = true := by intro c h; cases h; decide +kernel
theorem F69 : F 69 = some Try.f69 := rfl
theorem chk69 : ∀ c, Try.f69.body = some c → chk WR (K 69) Try.f69.ntmps c = true := by intro c h; cases h; decide +kernel
theorem F70 : F 70 = some Try.f70 := rfl
theorem chk70 : ∀ c, Try.f70.body = some c → chk WR (K 70) Try.f70.ntmps c = true := by intro c h; cases h; decide +kernel
theorem F71 : F 71 = some Try.f71 := rfl
theorem chk71 : ∀ c, Try.f71.body = some c → chk WR (K 71) Try.f71.ntmps c = true := by intro c h; cases h; decide +kernel
theorem ent {f : FuncId} {fn : Func} (h : Try.prog.funcs[f]? = some fn) (hb : fn.body.isSome = true) (hn : (fn.name == "runtime.NumGoroutine") = false) : Enters Try.prog f := enters_mk h hb hn
theorem okF_0 : ∀ f fn, F_0 f = some fn → Try.prog.funcs[f]? = some fn ∧ Enters Try.prog f ∧ ∀ c, fn.body = some c → chk WR (K f) fn.ntmps c = true := by
  intro f fn h
  unfold F_0 at h
  split at h
  · cases h; exact ⟨Try.func3, ent Try.func3 rfl rfl, chk3⟩
  · cases h; exact ⟨Try.func4, ent Try.func4 rfl rfl, chk4⟩
  · cases h; exact ⟨Try.func5, ent Try.func5 rfl rfl, chk5⟩
  · cases h; exact ⟨Try.func6, ent Try.func6 rfl rfl, chk6⟩
  · cases h; exact ⟨Try.func7, ent Try.func7 rfl rfl, chk7⟩
  · cases h; exact ⟨Try.func8, ent Try.func8 rfl rfl, chk8⟩
  · cases h; exact ⟨Try.func9, ent Try.func9 rfl rfl, chk9⟩
  · cases h; exact ⟨Try.func10, ent Try.func10 rfl rfl, chk10⟩
  · cases h; exact ⟨Try.func11, ent Try.func11 rfl rfl, chk11⟩
  · cases h; exact ⟨Try.func12, ent Try.func12 rfl rfl, chk12⟩
  · cases h; exact ⟨Try.func13, ent Try.func13 rfl rfl, chk13⟩
  · cases h; exact ⟨Try.func14, ent Try.func14 rfl rfl, chk14⟩
  · cases h; exact ⟨Try.func15, ent Try.func15 rfl rfl, chk15⟩
  · cases h; exact ⟨Try.func16, ent Try.func16 rfl rfl, chk16⟩
  · cases h; exact ⟨Try.func17, ent Try.func17 rfl rfl, chk17⟩
  · cases h; exact ⟨Try.func18, ent Try.func18 rfl rfl, chk18⟩
  · cases h; exact ⟨Try.func19, ent Try.func19 rfl rfl, chk19⟩
  · cases h; exact ⟨Try.func20, ent Try.func20 rfl rfl, chk20⟩
  · cases h; exact ⟨Try.func21, ent Try.func21 rfl rfl, chk21⟩
  · cases h; exact ⟨Try.func22, ent Try.func22 rfl rfl, chk22⟩
  · cases h; exact ⟨Try.func23, ent Try.func23 rfl rfl, chk23⟩
  · cases h; exact ⟨Try.func24, ent Try.func24 rfl rfl, chk24⟩
  · cases h; exact ⟨Try.func25, ent Try.func25 rfl rfl, chk25⟩
  · cases h; exact ⟨Try.func26, ent Try.func26 rfl rfl, chk26⟩
  · cases h
theorem okF_1 : ∀ f fn, F_1 f = some fn → Try.prog.funcs[f]? = some fn ∧ Enters Try.prog f ∧ ∀ c, fn.body = some c → chk WR (K f) fn.ntmps c = true := by
  intro f fn h
  unfold F_1 at h
  split at h
  · cases h; exact ⟨Try.func27, ent Try.func27 rfl rfl, chk27⟩
  · cases h; exact ⟨Try.func28, ent Try.func28 rfl rfl, chk28⟩
  · cases h; exact ⟨Try.func29, ent Try.func29 rfl rfl, chk29⟩
  · cases h; exact ⟨Try.func30, ent Try.func30 rfl rfl, chk30⟩
  · cases h; exact ⟨Try.func31, ent Try.func31 rfl rfl, chk31⟩
  · cases h; exact ⟨Try.func32, ent Try.func32 rfl rfl, chk32⟩
  · cases h; exact ⟨Try.func33, ent Try.func33 rfl rfl, chk33⟩
  · cases h; exact ⟨Try.func34, ent Try.func34 rfl rfl, chk34⟩
  · cases h; exact ⟨Try.func35, ent Try.func35 rfl rfl, chk35⟩
  · cases h; exact ⟨Try.func36, ent Try.func36 rfl rfl, chk36⟩
  · cases h; exact ⟨Try.func37, ent Try.func37 rfl rfl, chk37⟩
  · cases h; exact ⟨Try.func38, ent Try.func38 rfl rfl, chk38⟩
  · cases h; exact ⟨Try.func39, ent Try.func39 rfl rfl, chk39⟩
  · cases h; exact ⟨Try.func40, ent Try.func40 rfl rfl, chk40⟩
  · cases h; exact ⟨Try.func41, ent Try.func41 rfl rfl, chk41⟩
  · cases h; exact ⟨Try.func42, ent Try.func42 rfl rfl, chk42⟩
  · cases h; exact ⟨Try.func43, ent Try.func43 rfl rfl, chk43⟩
  · cases h; exact ⟨Try.func44, ent Try.func44 rfl rfl, chk44⟩
  · cases h; exact ⟨Try.func45, ent Try.func45 rfl rfl, chk45⟩
  · cases h; exact ⟨Try.func46, ent Try.func46 rfl rfl, chk46⟩
  · cases h; exact ⟨Try.func47, ent Try.func47 rfl rfl, chk47⟩
  · cases h; exact ⟨Try.func48, ent Try.func48 rfl rfl, chk48⟩
  · cases h; exact ⟨Try.func49, ent Try.func49 rfl rfl, chk49⟩
  · cases h; exact ⟨Try.func50, ent Try.func50 rfl rfl, chk50⟩
  · exact okF_0 _ _ h
theorem okF_2 : ∀ f fn, F_2 f = some fn → Try.prog.funcs[f]? = some fn ∧ Enters Try.prog f ∧ ∀ c, fn.body = some c → chk WR (K f) fn.ntmps c = true := by
  intro f fn h
  unfold F_2 at h
  split at h
  · cases h; exact ⟨Try.func51, ent Try.func51 rfl rfl, chk51⟩
  · cases h; exact ⟨Try.func52, ent Try.func52 rfl rfl, chk52⟩
  · cases h; exact ⟨Try.func53, ent Try.func53 rfl rfl, chk53⟩
  · cases h; exact ⟨Try.func54, ent Try.func54 rfl rfl, chk54⟩
  · cases h; exact ⟨Try.func55, ent Try.func55 rfl rfl, chk55⟩
  · cases h; exact ⟨Try.func56, ent Try.func56 rfl rfl, chk56⟩
  · cases h; exact ⟨Try.func57, ent Try.func57 rfl rfl, chk57⟩
  · cases h; exact ⟨Try.func58, ent Try.func58 rfl rfl, chk58⟩
  · cases h; exact ⟨Try.func59, ent Try.func59 rfl rfl, chk59⟩
  · cases h; exact ⟨Try.func60, ent Try.func60 rfl rfl, chk60⟩
  · cases h; exact ⟨Try.func61, ent Try.func61 rfl rfl, chk61⟩
  · cases h; exact ⟨Try.func62, ent Try.func62 rfl rfl, chk62⟩
  · cases h; exact ⟨Try.func63, ent Try.func63 rfl rfl, chk63⟩
  · cases h; exact ⟨Try.func64, ent Try.func64 rfl rfl, chk64⟩
  · cases h; exact ⟨Try.func65, ent Try.func65 rfl rfl, chk65⟩
  · cases h; exact ⟨Try.func66, ent Try.func66 rfl rfl, chk66⟩
  · cases h; exact ⟨Try.func67, ent Try.func67 rfl rfl, chk67⟩
  · cases h; exact ⟨Try.func68, ent Try.func68 rfl rfl, chk68⟩
  · cases h; exact ⟨Try.func69, ent Try.func69 rfl rfl, chk69⟩
  · cases h; exact ⟨Try.func70, ent Try.func70 rfl rfl, chk70⟩
  · cases h; exact ⟨Try.func71, ent Try.func71 rfl rfl, chk71⟩
  · exact okF_1 _ _ h
end Go.Proofs.Ytfcnlfjenialdaa.Eng
