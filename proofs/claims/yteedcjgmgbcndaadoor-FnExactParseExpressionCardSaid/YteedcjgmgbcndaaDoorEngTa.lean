/- The types, the functions and the loops' live slots that the laws reach, first part. No conditions. -/
import Derived.Test.YteedcjgmgbcndaaDoorEngS
import Derived.Test.YteedcjgmgbcndaaDoorProg
import Derived.KernelRfl
import Derived.Test.YteedcjgmgbcndaaDoorShelf
namespace Go.Proofs.YteedcjgmgbcndaaDoor.Eng
open Go Go.Proofs
set_option maxRecDepth 100000
def T : Tab
  | 3 => some ⟨.int .i64, 1, 8, [.int .i64 0], true⟩
  | 4 => some ⟨.bool, 1, 1, [.bool false], true⟩
  | 5 => some ⟨.int .u8, 1, 1, [.int .u8 0], true⟩
  | 9 => some ⟨.str, 1, 16, [.string ByteArray.empty], true⟩
  | 22 => some ⟨(.slice 34), 1, 24, [.slice none 0 0], false⟩
  | 29 => some ⟨(.struct [(0, 1, false), (1, 1, false), (2, 1, false)]), 3, 48, [.string ByteArray.empty, .slice none 0 0, .bool false], false⟩
  | 34 => some ⟨(.struct [(0, 1, false), (1, 1, false)]), 2, 16, [.int .i64 0, .int .i64 0], true⟩
  | 35 => some ⟨(.ptr 37), 1, 8, [.pointer none], false⟩
  | 37 => some ⟨(.struct [(0, 1, false), (1, 1, false), (2, 1, false), (3, 1, false)]), 4, 56, [.string ByteArray.empty, .int .i64 0, .bool false, .slice none 0 0], false⟩
  | 39 => some ⟨(.ptr 29), 1, 8, [.pointer none], false⟩
  | 42 => some ⟨(.slice 9), 1, 24, [.slice none 0 0], false⟩
  | 43 => some ⟨(.slice 4), 1, 24, [.slice none 0 0], false⟩
  | 56 => some ⟨.ifc, 1, 16, [.nilIface], false⟩
  | _ => none
theorem T3 : T 3 = some ⟨.int .i64, 1, 8, [.int .i64 0], true⟩ := rfl
theorem ok3 : TiOk Tryd.prog 3 ⟨.int .i64, 1, 8, [.int .i64 0], true⟩ := ⟨(by kernel_rfl : Tryd.prog.underlying 3 = _), (TiOk.of_info (z := (.int .i64 0)) (by kernel_rfl) rfl), rfl, by decide, (fun h => absurd h (by decide))⟩
theorem T4 : T 4 = some ⟨.bool, 1, 1, [.bool false], true⟩ := rfl
theorem ok4 : TiOk Tryd.prog 4 ⟨.bool, 1, 1, [.bool false], true⟩ := ⟨(by kernel_rfl : Tryd.prog.underlying 4 = _), (TiOk.of_info (z := (.bool false)) (by kernel_rfl) rfl), rfl, by decide, (fun h => absurd h (by decide))⟩
theorem T5 : T 5 = some ⟨.int .u8, 1, 1, [.int .u8 0], true⟩ := rfl
theorem ok5 : TiOk Tryd.prog 5 ⟨.int .u8, 1, 1, [.int .u8 0], true⟩ := ⟨(by kernel_rfl : Tryd.prog.underlying 5 = _), (TiOk.of_info (z := (.int .u8 0)) (by kernel_rfl) rfl), rfl, by decide, (fun h => absurd h (by decide))⟩
theorem T9 : T 9 = some ⟨.str, 1, 16, [.string ByteArray.empty], true⟩ := rfl
theorem ok9 : TiOk Tryd.prog 9 ⟨.str, 1, 16, [.string ByteArray.empty], true⟩ := ⟨(by kernel_rfl : Tryd.prog.underlying 9 = _), (TiOk.of_info (z := (.string ByteArray.empty)) (by kernel_rfl) rfl), rfl, by decide, (fun h => absurd h (by decide))⟩
theorem T22 : T 22 = some ⟨(.slice 34), 1, 24, [.slice none 0 0], false⟩ := rfl
theorem ok22 : TiOk Tryd.prog 22 ⟨(.slice 34), 1, 24, [.slice none 0 0], false⟩ := ⟨(by kernel_rfl : Tryd.prog.underlying 22 = _), (TiOk.of_info (z := (.slice none 0 0)) (by kernel_rfl) rfl), rfl, by decide, (fun h => absurd h (by decide))⟩
theorem T29 : T 29 = some ⟨(.struct [(0, 1, false), (1, 1, false), (2, 1, false)]), 3, 48, [.string ByteArray.empty, .slice none 0 0, .bool false], false⟩ := rfl
theorem ok29 : TiOk Tryd.prog 29 ⟨(.struct [(0, 1, false), (1, 1, false), (2, 1, false)]), 3, 48, [.string ByteArray.empty, .slice none 0 0, .bool false], false⟩ := ⟨TiOk.of_struct Tryd.underlying29 (by kernel_rfl), (TiOk.of_info (z := (.agg #[.string ByteArray.empty, .slice none 0 0, .bool false])) (by kernel_rfl) rfl), rfl, by decide, (fun h => absurd h (by decide))⟩
theorem T34 : T 34 = some ⟨(.struct [(0, 1, false), (1, 1, false)]), 2, 16, [.int .i64 0, .int .i64 0], true⟩ := rfl
theorem ok34 : TiOk Tryd.prog 34 ⟨(.struct [(0, 1, false), (1, 1, false)]), 2, 16, [.int .i64 0, .int .i64 0], true⟩ := ⟨TiOk.of_struct Tryd.underlying34 (by kernel_rfl), (TiOk.of_info (z := (.agg #[.int .i64 0, .int .i64 0])) (by kernel_rfl) rfl), rfl, by decide, (fun _ => by kernel_rfl)⟩
theorem T35 : T 35 = some ⟨(.ptr 37), 1, 8, [.pointer none], false⟩ := rfl
theorem ok35 : TiOk Tryd.prog 35 ⟨(.ptr 37), 1, 8, [.pointer none], false⟩ := ⟨(by kernel_rfl : Tryd.prog.underlying 35 = _), (TiOk.of_info (z := (.pointer none)) (by kernel_rfl) rfl), rfl, by decide, (fun h => absurd h (by decide))⟩
theorem T37 : T 37 = some ⟨(.struct [(0, 1, false), (1, 1, false), (2, 1, false), (3, 1, false)]), 4, 56, [.string ByteArray.empty, .int .i64 0, .bool false, .slice none 0 0], false⟩ := rfl
theorem ok37 : TiOk Tryd.prog 37 ⟨(.struct [(0, 1, false), (1, 1, false), (2, 1, false), (3, 1, false)]), 4, 56, [.string ByteArray.empty, .int .i64 0, .bool false, .slice none 0 0], false⟩ := ⟨TiOk.of_struct Tryd.underlying37 (by kernel_rfl), (TiOk.of_info (z := (.agg #[.string ByteArray.empty, .int .i64 0, .bool false, .slice none 0 0])) (by kernel_rfl) rfl), rfl, by decide, (fun h => absurd h (by decide))⟩
theorem T39 : T 39 = some ⟨(.ptr 29), 1, 8, [.pointer none], false⟩ := rfl
theorem ok39 : TiOk Tryd.prog 39 ⟨(.ptr 29), 1, 8, [.pointer none], false⟩ := ⟨(by kernel_rfl : Tryd.prog.underlying 39 = _), (TiOk.of_info (z := (.pointer none)) (by kernel_rfl) rfl), rfl, by decide, (fun h => absurd h (by decide))⟩
theorem T42 : T 42 = some ⟨(.slice 9), 1, 24, [.slice none 0 0], false⟩ := rfl
theorem ok42 : TiOk Tryd.prog 42 ⟨(.slice 9), 1, 24, [.slice none 0 0], false⟩ := ⟨(by kernel_rfl : Tryd.prog.underlying 42 = _), (TiOk.of_info (z := (.slice none 0 0)) (by kernel_rfl) rfl), rfl, by decide, (fun h => absurd h (by decide))⟩
theorem T43 : T 43 = some ⟨(.slice 4), 1, 24, [.slice none 0 0], false⟩ := rfl
theorem ok43 : TiOk Tryd.prog 43 ⟨(.slice 4), 1, 24, [.slice none 0 0], false⟩ := ⟨(by kernel_rfl : Tryd.prog.underlying 43 = _), (TiOk.of_info (z := (.slice none 0 0)) (by kernel_rfl) rfl), rfl, by decide, (fun h => absurd h (by decide))⟩
theorem T56 : T 56 = some ⟨.ifc, 1, 16, [.nilIface], false⟩ := rfl
theorem ok56 : TiOk Tryd.prog 56 ⟨.ifc, 1, 16, [.nilIface], false⟩ := ⟨⟨_, Tryd.underlying56⟩, (TiOk.of_info (z := (.nilIface)) (by kernel_rfl) rfl), rfl, by decide, (fun h => absurd h (by decide))⟩
theorem tabOk : TabOk Tryd.prog T := by
  intro t i h
  unfold T at h
  split at h
  · cases h; exact ok3
  · cases h; exact ok4
  · cases h; exact ok5
  · cases h; exact ok9
  · cases h; exact ok22
  · cases h; exact ok29
  · cases h; exact ok34
  · cases h; exact ok35
  · cases h; exact ok37
  · cases h; exact ok39
  · cases h; exact ok42
  · cases h; exact ok43
  · cases h; exact ok56
  · cases h
set_option maxHeartbeats 1000000
def WR (f : FuncId) : Bool := f == 7 || f == 10 || f == 14 || f == 17 || f == 18 || f == 23 || f == 24 || f == 25 || f == 30 || f == 31 || f == 32 || f == 36 || f == 37 || f == 38
def OW (f : FuncId) : Bool := f == 7
def BL : FuncId → Option (Nat × TypeId × TypeId)
  | _ => none
def K : FuncId → Nat → List Nat
  | 6, 0 => [0, 1, 5]
  | 7, 0 => [0, 1, 5]
  | 8, 0 => [0, 1, 5]
  | 10, 0 => [0]
  | 11, 0 => [3, 9, 10, 11]
  | 12, 0 => [3, 4, 13, 14, 15]
  | 14, 0 => [0]
  | 15, 0 => [0, 3, 4]
  | 32, 0 => [0, 3]
  | 38, 0 => [0, 3]
  | 43, 0 => [0, 4, 5, 6]
  | 12, 1029 => [5, 29800]
  | 17, 1010 => [6, 0, 6, 1, 6, 8224, 1006, 100001]
  | 17, 1002 => [6, 0, 6, 1, 1006, 100001]
  | _, _ => []
@[simp] theorem K6_0 : K 6 0 = [0, 1, 5] := rfl
@[simp] theorem K7_0 : K 7 0 = [0, 1, 5] := rfl
@[simp] theorem K8_0 : K 8 0 = [0, 1, 5] := rfl
@[simp] theorem K10_0 : K 10 0 = [0] := rfl
@[simp] theorem K11_0 : K 11 0 = [3, 9, 10, 11] := rfl
@[simp] theorem K12_0 : K 12 0 = [3, 4, 13, 14, 15] := rfl
@[simp] theorem K14_0 : K 14 0 = [0] := rfl
@[simp] theorem K15_0 : K 15 0 = [0, 3, 4] := rfl
@[simp] theorem K32_0 : K 32 0 = [0, 3] := rfl
@[simp] theorem K38_0 : K 38 0 = [0, 3] := rfl
@[simp] theorem K43_0 : K 43 0 = [0, 4, 5, 6] := rfl
@[simp] theorem K3_2000 : K 3 2000 = [] := rfl
@[simp] theorem K3_2001 : K 3 2001 = [] := rfl
@[simp] theorem K3_2002 : K 3 2002 = [] := rfl
@[simp] theorem K3_2003 : K 3 2003 = [] := rfl
@[simp] theorem K3_2004 : K 3 2004 = [] := rfl
@[simp] theorem K3_2005 : K 3 2005 = [] := rfl
@[simp] theorem K3_2006 : K 3 2006 = [] := rfl
@[simp] theorem K3_2007 : K 3 2007 = [] := rfl
@[simp] theorem K3_2008 : K 3 2008 = [] := rfl
@[simp] theorem K3_2009 : K 3 2009 = [] := rfl
@[simp] theorem K3_2010 : K 3 2010 = [] := rfl
@[simp] theorem K3_2011 : K 3 2011 = [] := rfl
@[simp] theorem K3_2012 : K 3 2012 = [] := rfl
@[simp] theorem K3_2013 : K 3 2013 = [] := rfl
@[simp] theorem K3_2014 : K 3 2014 = [] := rfl
@[simp] theorem K3_2015 : K 3 2015 = [] := rfl
@[simp] theorem K3_2016 : K 3 2016 = [] := rfl
@[simp] theorem K3_2017 : K 3 2017 = [] := rfl
@[simp] theorem K3_2018 : K 3 2018 = [] := rfl
@[simp] theorem K3_2019 : K 3 2019 = [] := rfl
@[simp] theorem K3_2020 : K 3 2020 = [] := rfl
@[simp] theorem K3_2021 : K 3 2021 = [] := rfl
@[simp] theorem K3_2022 : K 3 2022 = [] := rfl
@[simp] theorem K3_2023 : K 3 2023 = [] := rfl
@[simp] theorem K3_2024 : K 3 2024 = [] := rfl
@[simp] theorem K4_2000 : K 4 2000 = [] := rfl
@[simp] theorem K4_2001 : K 4 2001 = [] := rfl
@[simp] theorem K5_2000 : K 5 2000 = [] := rfl
@[simp] theorem K5_2001 : K 5 2001 = [] := rfl
@[simp] theorem K5_2002 : K 5 2002 = [] := rfl
@[simp] theorem K5_2003 : K 5 2003 = [] := rfl
@[simp] theorem K5_2004 : K 5 2004 = [] := rfl
@[simp] theorem K5_2005 : K 5 2005 = [] := rfl
@[simp] theorem K5_2006 : K 5 2006 = [] := rfl
@[simp] theorem K5_2007 : K 5 2007 = [] := rfl
@[simp] theorem K6_2000 : K 6 2000 = [] := rfl
@[simp] theorem K6_2001 : K 6 2001 = [] := rfl
@[simp] theorem K6_2002 : K 6 2002 = [] := rfl
@[simp] theorem K6_2003 : K 6 2003 = [] := rfl
@[simp] theorem K6_2004 : K 6 2004 = [] := rfl
@[simp] theorem K6_2007 : K 6 2007 = [] := rfl
@[simp] theorem K6_2005 : K 6 2005 = [] := rfl
@[simp] theorem K6_2008 : K 6 2008 = [] := rfl
@[simp] theorem K7_2000 : K 7 2000 = [] := rfl
@[simp] theorem K7_2001 : K 7 2001 = [] := rfl
@[simp] theorem K7_2002 : K 7 2002 = [] := rfl
@[simp] theorem K7_2004 : K 7 2004 = [] := rfl
@[simp] theorem K7_2005 : K 7 2005 = [] := rfl
@[simp] theorem K7_2006 : K 7 2006 = [] := rfl
@[simp] theorem K7_2007 : K 7 2007 = [] := rfl
@[simp] theorem K7_2003 : K 7 2003 = [] := rfl
@[simp] theorem K7_2008 : K 7 2008 = [] := rfl
@[simp] theorem K8_2000 : K 8 2000 = [] := rfl
@[simp] theorem K8_2001 : K 8 2001 = [] := rfl
@[simp] theorem K8_2002 : K 8 2002 = [] := rfl
@[simp] theorem K8_2004 : K 8 2004 = [] := rfl
@[simp] theorem K8_2005 : K 8 2005 = [] := rfl
@[simp] theorem K8_2006 : K 8 2006 = [] := rfl
@[simp] theorem K8_2007 : K 8 2007 = [] := rfl
@[simp] theorem K8_2008 : K 8 2008 = [] := rfl
@[simp] theorem K8_2009 : K 8 2009 = [] := rfl
@[simp] theorem K8_2003 : K 8 2003 = [] := rfl
@[simp] theorem K8_2010 : K 8 2010 = [] := rfl
@[simp] theorem K9_2000 : K 9 2000 = [] := rfl
@[simp] theorem K9_2001 : K 9 2001 = [] := rfl
@[simp] theorem K9_2002 : K 9 2002 = [] := rfl
@[simp] theorem K9_2003 : K 9 2003 = [] := rfl
@[simp] theorem K9_2004 : K 9 2004 = [] := rfl
@[simp] theorem K9_2006 : K 9 2006 = [] := rfl
@[simp] theorem K9_2007 : K 9 2007 = [] := rfl
@[simp] theorem K10_2000 : K 10 2000 = [] := rfl
@[simp] theorem K10_2001 : K 10 2001 = [] := rfl
@[simp] theorem K10_2002 : K 10 2002 = [] := rfl
@[simp] theorem K10_2003 : K 10 2003 = [] := rfl
@[simp] theorem K10_2004 : K 10 2004 = [] := rfl
@[simp] theorem K10_2005 : K 10 2005 = [] := rfl
@[simp] theorem K10_2006 : K 10 2006 = [] := rfl
@[simp] theorem K10_2007 : K 10 2007 = [] := rfl
@[simp] theorem K10_2008 : K 10 2008 = [] := rfl
@[simp] theorem K11_2000 : K 11 2000 = [] := rfl
@[simp] theorem K11_2001 : K 11 2001 = [] := rfl
@[simp] theorem K11_2002 : K 11 2002 = [] := rfl
@[simp] theorem K11_2003 : K 11 2003 = [] := rfl
@[simp] theorem K11_2004 : K 11 2004 = [] := rfl
@[simp] theorem K11_2005 : K 11 2005 = [] := rfl
@[simp] theorem K11_2006 : K 11 2006 = [] := rfl
@[simp] theorem K11_2007 : K 11 2007 = [] := rfl
@[simp] theorem K11_2008 : K 11 2008 = [] := rfl
@[simp] theorem K11_2009 : K 11 2009 = [] := rfl
@[simp] theorem K11_2010 : K 11 2010 = [] := rfl
@[simp] theorem K11_2011 : K 11 2011 = [] := rfl
@[simp] theorem K11_2012 : K 11 2012 = [] := rfl
@[simp] theorem K12_2000 : K 12 2000 = [] := rfl
@[simp] theorem K12_2001 : K 12 2001 = [] := rfl
@[simp] theorem K12_2002 : K 12 2002 = [] := rfl
@[simp] theorem K12_2003 : K 12 2003 = [] := rfl
@[simp] theorem K12_2004 : K 12 2004 = [] := rfl
@[simp] theorem K12_2005 : K 12 2005 = [] := rfl
@[simp] theorem K12_2006 : K 12 2006 = [] := rfl
@[simp] theorem K12_2008 : K 12 2008 = [] := rfl
@[simp] theorem K12_2009 : K 12 2009 = [] := rfl
@[simp] theorem K12_2010 : K 12 2010 = [] := rfl
@[simp] theorem K12_2011 : K 12 2011 = [] := rfl
@[simp] theorem K12_2012 : K 12 2012 = [] := rfl
@[simp] theorem K12_2013 : K 12 2013 = [] := rfl
@[simp] theorem K12_2014 : K 12 2014 = [] := rfl
@[simp] theorem K12_2015 : K 12 2015 = [] := rfl
@[simp] theorem K12_2016 : K 12 2016 = [] := rfl
@[simp] theorem K12_2017 : K 12 2017 = [] := rfl
@[simp] theorem K12_2018 : K 12 2018 = [] := rfl
@[simp] theorem K12_2019 : K 12 2019 = [] := rfl
@[simp] theorem K12_2020 : K 12 2020 = [] := rfl
@[simp] theorem K12_2021 : K 12 2021 = [] := rfl
@[simp] theorem K12_2022 : K 12 2022 = [] := rfl
@[simp] theorem K12_2023 : K 12 2023 = [] := rfl
@[simp] theorem K12_2025 : K 12 2025 = [] := rfl
@[simp] theorem K12_2027 : K 12 2027 = [] := rfl
@[simp] theorem K12_2030 : K 12 2030 = [] := rfl
@[simp] theorem K12_2031 : K 12 2031 = [] := rfl
@[simp] theorem K13_2000 : K 13 2000 = [] := rfl
@[simp] theorem K13_2001 : K 13 2001 = [] := rfl
@[simp] theorem K13_2002 : K 13 2002 = [] := rfl
@[simp] theorem K13_2003 : K 13 2003 = [] := rfl
@[simp] theorem K13_2004 : K 13 2004 = [] := rfl
@[simp] theorem K13_2005 : K 13 2005 = [] := rfl
@[simp] theorem K14_2000 : K 14 2000 = [] := rfl
@[simp] theorem K14_2001 : K 14 2001 = [] := rfl
@[simp] theorem K14_2002 : K 14 2002 = [] := rfl
@[simp] theorem K14_2003 : K 14 2003 = [] := rfl
@[simp] theorem K14_2004 : K 14 2004 = [] := rfl
@[simp] theorem K14_2005 : K 14 2005 = [] := rfl
@[simp] theorem K14_2006 : K 14 2006 = [] := rfl
@[simp] theorem K14_2007 : K 14 2007 = [] := rfl
@[simp] theorem K15_2000 : K 15 2000 = [] := rfl
@[simp] theorem K15_2001 : K 15 2001 = [] := rfl
@[simp] theorem K15_2002 : K 15 2002 = [] := rfl
@[simp] theorem K15_2003 : K 15 2003 = [] := rfl
@[simp] theorem K15_2004 : K 15 2004 = [] := rfl
@[simp] theorem K15_2005 : K 15 2005 = [] := rfl
@[simp] theorem K15_2007 : K 15 2007 = [] := rfl
@[simp] theorem K15_2008 : K 15 2008 = [] := rfl
@[simp] theorem K15_2009 : K 15 2009 = [] := rfl
@[simp] theorem K15_2010 : K 15 2010 = [] := rfl
@[simp] theorem K15_2006 : K 15 2006 = [] := rfl
@[simp] theorem K15_2011 : K 15 2011 = [] := rfl
@[simp] theorem K16_2000 : K 16 2000 = [] := rfl
@[simp] theorem K16_2001 : K 16 2001 = [] := rfl
@[simp] theorem K16_2002 : K 16 2002 = [] := rfl
@[simp] theorem K16_2003 : K 16 2003 = [] := rfl
@[simp] theorem K16_2004 : K 16 2004 = [] := rfl
@[simp] theorem K16_2005 : K 16 2005 = [] := rfl
@[simp] theorem K16_2006 : K 16 2006 = [] := rfl
@[simp] theorem K16_2007 : K 16 2007 = [] := rfl
@[simp] theorem K16_2009 : K 16 2009 = [] := rfl
@[simp] theorem K16_2010 : K 16 2010 = [] := rfl
@[simp] theorem K16_2011 : K 16 2011 = [] := rfl
@[simp] theorem K16_2012 : K 16 2012 = [] := rfl
@[simp] theorem K16_2013 : K 16 2013 = [] := rfl
@[simp] theorem K16_2014 : K 16 2014 = [] := rfl
@[simp] theorem K16_2015 : K 16 2015 = [] := rfl
@[simp] theorem K16_2016 : K 16 2016 = [] := rfl
@[simp] theorem K16_2017 : K 16 2017 = [] := rfl
@[simp] theorem K16_2018 : K 16 2018 = [] := rfl
@[simp] theorem K16_2019 : K 16 2019 = [] := rfl
@[simp] theorem K16_2020 : K 16 2020 = [] := rfl
@[simp] theorem K17_2000 : K 17 2000 = [] := rfl
@[simp] theorem K17_2001 : K 17 2001 = [] := rfl
@[simp] theorem K17_2003 : K 17 2003 = [] := rfl
@[simp] theorem K17_2004 : K 17 2004 = [] := rfl
@[simp] theorem K17_2005 : K 17 2005 = [] := rfl
@[simp] theorem K17_2006 : K 17 2006 = [] := rfl
@[simp] theorem K17_2007 : K 17 2007 = [] := rfl
@[simp] theorem K17_2008 : K 17 2008 = [] := rfl
@[simp] theorem K17_2009 : K 17 2009 = [] := rfl
@[simp] theorem K17_2011 : K 17 2011 = [] := rfl
@[simp] theorem K17_2012 : K 17 2012 = [] := rfl
@[simp] theorem K17_2013 : K 17 2013 = [] := rfl
@[simp] theorem K17_2014 : K 17 2014 = [] := rfl
@[simp] theorem K17_2015 : K 17 2015 = [] := rfl
@[simp] theorem K17_2017 : K 17 2017 = [] := rfl
@[simp] theorem K18_2000 : K 18 2000 = [] := rfl
@[simp] theorem K18_2001 : K 18 2001 = [] := rfl
@[simp] theorem K18_2002 : K 18 2002 = [] := rfl
@[simp] theorem K18_2003 : K 18 2003 = [] := rfl
@[simp] theorem K19_2000 : K 19 2000 = [] := rfl
@[simp] theorem K19_2001 : K 19 2001 = [] := rfl
@[simp] theorem K19_2002 : K 19 2002 = [] := rfl
@[simp] theorem K19_2003 : K 19 2003 = [] := rfl
@[simp] theorem K19_2004 : K 19 2004 = [] := rfl
@[simp] theorem K19_2005 : K 19 2005 = [] := rfl
@[simp] theorem K20_2000 : K 20 2000 = [] := rfl
@[simp] theorem K20_2001 : K 20 2001 = [] := rfl
@[simp] theorem K20_2002 : K 20 2002 = [] := rfl
@[simp] theorem K20_2003 : K 20 2003 = [] := rfl
@[simp] theorem K20_2004 : K 20 2004 = [] := rfl
@[simp] theorem K20_2005 : K 20 2005 = [] := rfl
@[simp] theorem K22_2000 : K 22 2000 = [] := rfl
@[simp] theorem K22_2001 : K 22 2001 = [] := rfl
@[simp] theorem K23_2001 : K 23 2001 = [] := rfl
@[simp] theorem K23_2002 : K 23 2002 = [] := rfl
@[simp] theorem K23_2003 : K 23 2003 = [] := rfl
@[simp] theorem K23_2004 : K 23 2004 = [] := rfl
@[simp] theorem K23_2005 : K 23 2005 = [] := rfl
@[simp] theorem K23_2006 : K 23 2006 = [] := rfl
@[simp] theorem K23_2007 : K 23 2007 = [] := rfl
@[simp] theorem K23_2008 : K 23 2008 = [] := rfl
@[simp] theorem K23_2009 : K 23 2009 = [] := rfl
@[simp] theorem K23_2010 : K 23 2010 = [] := rfl
@[simp] theorem K23_2011 : K 23 2011 = [] := rfl
@[simp] theorem K23_2012 : K 23 2012 = [] := rfl
@[simp] theorem K23_2013 : K 23 2013 = [] := rfl
@[simp] theorem K23_2014 : K 23 2014 = [] := rfl
@[simp] theorem K23_2015 : K 23 2015 = [] := rfl
@[simp] theorem K23_2016 : K 23 2016 = [] := rfl
@[simp] theorem K23_2017 : K 23 2017 = [] := rfl
@[simp] theorem K23_2018 : K 23 2018 = [] := rfl
@[simp] theorem K23_2019 : K 23 2019 = [] := rfl
@[simp] theorem K23_2020 : K 23 2020 = [] := rfl
@[simp] theorem K23_2021 : K 23 2021 = [] := rfl
@[simp] theorem K23_2022 : K 23 2022 = [] := rfl
@[simp] theorem K23_2000 : K 23 2000 = [] := rfl
@[simp] theorem K24_2000 : K 24 2000 = [] := rfl
@[simp] theorem K24_2002 : K 24 2002 = [] := rfl
@[simp] theorem K24_2003 : K 24 2003 = [] := rfl
@[simp] theorem K24_2004 : K 24 2004 = [] := rfl
@[simp] theorem K25_2000 : K 25 2000 = [] := rfl
@[simp] theorem K25_2001 : K 25 2001 = [] := rfl
@[simp] theorem K25_2002 : K 25 2002 = [] := rfl
@[simp] theorem K26_2000 : K 26 2000 = [] := rfl
@[simp] theorem K26_2001 : K 26 2001 = [] := rfl
@[simp] theorem K26_2002 : K 26 2002 = [] := rfl
@[simp] theorem K26_2003 : K 26 2003 = [] := rfl
@[simp] theorem K26_2004 : K 26 2004 = [] := rfl
@[simp] theorem K26_2005 : K 26 2005 = [] := rfl
@[simp] theorem K26_2006 : K 26 2006 = [] := rfl
@[simp] theorem K26_2007 : K 26 2007 = [] := rfl
@[simp] theorem K26_2008 : K 26 2008 = [] := rfl
@[simp] theorem K27_2000 : K 27 2000 = [] := rfl
@[simp] theorem K27_2001 : K 27 2001 = [] := rfl
@[simp] theorem K27_2002 : K 27 2002 = [] := rfl
@[simp] theorem K27_2003 : K 27 2003 = [] := rfl
@[simp] theorem K27_2004 : K 27 2004 = [] := rfl
@[simp] theorem K28_2000 : K 28 2000 = [] := rfl
@[simp] theorem K28_2001 : K 28 2001 = [] := rfl
@[simp] theorem K28_2002 : K 28 2002 = [] := rfl
@[simp] theorem K28_2003 : K 28 2003 = [] := rfl
@[simp] theorem K28_2004 : K 28 2004 = [] := rfl
@[simp] theorem K28_2005 : K 28 2005 = [] := rfl
@[simp] theorem K28_2006 : K 28 2006 = [] := rfl
@[simp] theorem K29_2000 : K 29 2000 = [] := rfl
@[simp] theorem K29_2001 : K 29 2001 = [] := rfl
@[simp] theorem K30_2000 : K 30 2000 = [] := rfl
@[simp] theorem K30_2001 : K 30 2001 = [] := rfl
@[simp] theorem K30_2002 : K 30 2002 = [] := rfl
@[simp] theorem K30_2003 : K 30 2003 = [] := rfl
@[simp] theorem K30_2004 : K 30 2004 = [] := rfl
@[simp] theorem K31_2000 : K 31 2000 = [] := rfl
@[simp] theorem K31_2001 : K 31 2001 = [] := rfl
@[simp] theorem K32_2000 : K 32 2000 = [] := rfl
@[simp] theorem K32_2001 : K 32 2001 = [] := rfl
@[simp] theorem K32_2002 : K 32 2002 = [] := rfl
@[simp] theorem K32_2003 : K 32 2003 = [] := rfl
@[simp] theorem K32_2004 : K 32 2004 = [] := rfl
@[simp] theorem K32_2005 : K 32 2005 = [] := rfl
@[simp] theorem K32_2006 : K 32 2006 = [] := rfl
@[simp] theorem K32_2007 : K 32 2007 = [] := rfl
@[simp] theorem K33_2000 : K 33 2000 = [] := rfl
@[simp] theorem K33_2001 : K 33 2001 = [] := rfl
@[simp] theorem K34_2000 : K 34 2000 = [] := rfl
@[simp] theorem K34_2001 : K 34 2001 = [] := rfl
@[simp] theorem K36_2000 : K 36 2000 = [] := rfl
@[simp] theorem K36_2001 : K 36 2001 = [] := rfl
@[simp] theorem K36_2002 : K 36 2002 = [] := rfl
@[simp] theorem K36_2003 : K 36 2003 = [] := rfl
@[simp] theorem K36_2004 : K 36 2004 = [] := rfl
@[simp] theorem K37_2000 : K 37 2000 = [] := rfl
@[simp] theorem K37_2001 : K 37 2001 = [] := rfl
@[simp] theorem K38_2000 : K 38 2000 = [] := rfl
@[simp] theorem K38_2001 : K 38 2001 = [] := rfl
@[simp] theorem K38_2003 : K 38 2003 = [] := rfl
@[simp] theorem K38_2005 : K 38 2005 = [] := rfl
@[simp] theorem K38_2006 : K 38 2006 = [] := rfl
@[simp] theorem K39_2000 : K 39 2000 = [] := rfl
@[simp] theorem K39_2001 : K 39 2001 = [] := rfl
@[simp] theorem K40_2000 : K 40 2000 = [] := rfl
@[simp] theorem K40_2001 : K 40 2001 = [] := rfl
@[simp] theorem K40_2002 : K 40 2002 = [] := rfl
@[simp] theorem K40_2003 : K 40 2003 = [] := rfl
@[simp] theorem K40_2004 : K 40 2004 = [] := rfl
@[simp] theorem K41_2000 : K 41 2000 = [] := rfl
@[simp] theorem K41_2001 : K 41 2001 = [] := rfl
@[simp] theorem K41_2002 : K 41 2002 = [] := rfl
@[simp] theorem K41_2003 : K 41 2003 = [] := rfl
@[simp] theorem K43_2000 : K 43 2000 = [] := rfl
@[simp] theorem K43_2001 : K 43 2001 = [] := rfl
@[simp] theorem K43_2002 : K 43 2002 = [] := rfl
@[simp] theorem K43_2003 : K 43 2003 = [] := rfl
@[simp] theorem K43_2004 : K 43 2004 = [] := rfl
@[simp] theorem K43_2005 : K 43 2005 = [] := rfl
@[simp] theorem K43_2006 : K 43 2006 = [] := rfl
@[simp] theorem K43_2007 : K 43 2007 = [] := rfl
@[simp] theorem K43_2008 : K 43 2008 = [] := rfl
@[simp] theorem K43_2010 : K 43 2010 = [] := rfl
@[simp] theorem K43_2011 : K 43 2011 = [] := rfl
@[simp] theorem K43_2012 : K 43 2012 = [] := rfl
@[simp] theorem K43_2009 : K 43 2009 = [] := rfl
@[simp] theorem K43_2013 : K 43 2013 = [] := rfl
@[simp] theorem K43_2014 : K 43 2014 = [] := rfl
@[simp] theorem K43_2015 : K 43 2015 = [] := rfl
@[simp] theorem K43_2016 : K 43 2016 = [] := rfl
@[simp] theorem K43_2017 : K 43 2017 = [] := rfl
@[simp] theorem K45_2000 : K 45 2000 = [] := rfl
@[simp] theorem K45_2001 : K 45 2001 = [] := rfl
@[simp] theorem K6_1006 : K 6 1006 = [] := rfl
@[simp] theorem K9_1005 : K 9 1005 = [] := rfl
@[simp] theorem K12_1007 : K 12 1007 = [] := rfl
@[simp] theorem K12_1024 : K 12 1024 = [] := rfl
@[simp] theorem K12_1026 : K 12 1026 = [] := rfl
@[simp] theorem K12_1028 : K 12 1028 = [] := rfl
@[simp] theorem K12_1029 : K 12 1029 = [5, 29800] := rfl
@[simp] theorem K16_1008 : K 16 1008 = [] := rfl
@[simp] theorem K17_1010 : K 17 1010 = [6, 0, 6, 1, 6, 8224, 1006, 100001] := rfl
@[simp] theorem K17_1016 : K 17 1016 = [] := rfl
@[simp] theorem K17_1002 : K 17 1002 = [6, 0, 6, 1, 1006, 100001] := rfl
@[simp] theorem K24_1001 : K 24 1001 = [] := rfl
@[simp] theorem K27_1005 : K 27 1005 = [] := rfl
@[simp] theorem K38_1002 : K 38 1002 = [] := rfl
@[simp] theorem K38_1004 : K 38 1004 = [] := rfl
@[simp] theorem BL3 : BL 3 = none := rfl
@[simp] theorem WR3 : WR 3 = false := rfl
@[simp] theorem OW3 : OW 3 = false := rfl
@[simp] theorem BL4 : BL 4 = none := rfl
@[simp] theorem WR4 : WR 4 = false := rfl
@[simp] theorem OW4 : OW 4 = false := rfl
@[simp] theorem BL5 : BL 5 = none := rfl
@[simp] theorem WR5 : WR 5 = false := rfl
@[simp] theorem OW5 : OW 5 = false := rfl
@[simp] theorem BL6 : BL 6 = none := rfl
@[simp] theorem WR6 : WR 6 = false := rfl
@[simp] theorem OW6 : OW 6 = false := rfl
@[simp] theorem BL7 : BL 7 = none := rfl
@[simp] theorem WR7 : WR 7 = true := rfl
@[simp] theorem OW7 : OW 7 = true := rfl
@[simp] theorem BL8 : BL 8 = none := rfl
@[simp] theorem WR8 : WR 8 = false := rfl
@[simp] theorem OW8 : OW 8 = false := rfl
@[simp] theorem BL9 : BL 9 = none := rfl
@[simp] theorem WR9 : WR 9 = false := rfl
@[simp] theorem OW9 : OW 9 = false := rfl
@[simp] theorem BL10 : BL 10 = none := rfl
@[simp] theorem WR10 : WR 10 = true := rfl
@[simp] theorem OW10 : OW 10 = false := rfl
@[simp] theorem BL11 : BL 11 = none := rfl
@[simp] theorem WR11 : WR 11 = false := rfl
@[simp] theorem OW11 : OW 11 = false := rfl
@[simp] theorem BL12 : BL 12 = none := rfl
@[simp] theorem WR12 : WR 12 = false := rfl
@[simp] theorem OW12 : OW 12 = false := rfl
@[simp] theorem BL13 : BL 13 = none := rfl
@[simp] theorem WR13 : WR 13 = false := rfl
@[simp] theorem OW13 : OW 13 = false := rfl
@[simp] theorem BL14 : BL 14 = none := rfl
@[simp] theorem WR14 : WR 14 = true := rfl
@[simp] theorem OW14 : OW 14 = false := rfl
@[simp] theorem BL15 : BL 15 = none := rfl
@[simp] theorem WR15 : WR 15 = false := rfl
@[simp] theorem OW15 : OW 15 = false := rfl
@[simp] theorem BL16 : BL 16 = none := rfl
@[simp] theorem WR16 : WR 16 = false := rfl
@[simp] theorem OW16 : OW 16 = false := rfl
@[simp] theorem BL17 : BL 17 = none := rfl
@[simp] theorem WR17 : WR 17 = true := rfl
@[simp] theorem OW17 : OW 17 = false := rfl
@[simp] theorem BL18 : BL 18 = none := rfl
@[simp] theorem WR18 : WR 18 = true := rfl
@[simp] theorem OW18 : OW 18 = false := rfl
@[simp] theorem BL19 : BL 19 = none := rfl
@[simp] theorem WR19 : WR 19 = false := rfl
@[simp] theorem OW19 : OW 19 = false := rfl
@[simp] theorem BL20 : BL 20 = none := rfl
@[simp] theorem WR20 : WR 20 = false := rfl
@[simp] theorem OW20 : OW 20 = false := rfl
@[simp] theorem BL22 : BL 22 = none := rfl
@[simp] theorem WR22 : WR 22 = false := rfl
@[simp] theorem OW22 : OW 22 = false := rfl
@[simp] theorem BL23 : BL 23 = none := rfl
@[simp] theorem WR23 : WR 23 = true := rfl
@[simp] theorem OW23 : OW 23 = false := rfl
@[simp] theorem BL24 : BL 24 = none := rfl
@[simp] theorem WR24 : WR 24 = true := rfl
@[simp] theorem OW24 : OW 24 = false := rfl
@[simp] theorem BL25 : BL 25 = none := rfl
@[simp] theorem WR25 : WR 25 = true := rfl
@[simp] theorem OW25 : OW 25 = false := rfl
@[simp] theorem BL26 : BL 26 = none := rfl
@[simp] theorem WR26 : WR 26 = false := rfl
@[simp] theorem OW26 : OW 26 = false := rfl
@[simp] theorem BL27 : BL 27 = none := rfl
@[simp] theorem WR27 : WR 27 = false := rfl
@[simp] theorem OW27 : OW 27 = false := rfl
@[simp] theorem BL28 : BL 28 = none := rfl
@[simp] theorem WR28 : WR 28 = false := rfl
@[simp] theorem OW28 : OW 28 = false := rfl
@[simp] theorem BL29 : BL 29 = none := rfl
@[simp] theorem WR29 : WR 29 = false := rfl
@[simp] theorem OW29 : OW 29 = false := rfl
@[simp] theorem BL30 : BL 30 = none := rfl
@[simp] theorem WR30 : WR 30 = true := rfl
@[simp] theorem OW30 : OW 30 = false := rfl
@[simp] theorem BL31 : BL 31 = none := rfl
@[simp] theorem WR31 : WR 31 = true := rfl
@[simp] theorem OW31 : OW 31 = false := rfl
@[simp] theorem BL32 : BL 32 = none := rfl
@[simp] theorem WR32 : WR 32 = true := rfl
@[simp] theorem OW32 : OW 32 = false := rfl
@[simp] theorem BL33 : BL 33 = none := rfl
@[simp] theorem WR33 : WR 33 = false := rfl
@[simp] theorem OW33 : OW 33 = false := rfl
@[simp] theorem BL34 : BL 34 = none := rfl
@[simp] theorem WR34 : WR 34 = false := rfl
@[simp] theorem OW34 : OW 34 = false := rfl
@[simp] theorem BL36 : BL 36 = none := rfl
@[simp] theorem WR36 : WR 36 = true := rfl
@[simp] theorem OW36 : OW 36 = false := rfl
@[simp] theorem BL37 : BL 37 = none := rfl
@[simp] theorem WR37 : WR 37 = true := rfl
@[simp] theorem OW37 : OW 37 = false := rfl
@[simp] theorem BL38 : BL 38 = none := rfl
@[simp] theorem WR38 : WR 38 = true := rfl
@[simp] theorem OW38 : OW 38 = false := rfl
@[simp] theorem BL39 : BL 39 = none := rfl
@[simp] theorem WR39 : WR 39 = false := rfl
@[simp] theorem OW39 : OW 39 = false := rfl
@[simp] theorem BL40 : BL 40 = none := rfl
@[simp] theorem WR40 : WR 40 = false := rfl
@[simp] theorem OW40 : OW 40 = false := rfl
@[simp] theorem BL41 : BL 41 = none := rfl
@[simp] theorem WR41 : WR 41 = false := rfl
@[simp] theorem OW41 : OW 41 = false := rfl
@[simp] theorem BL43 : BL 43 = none := rfl
@[simp] theorem WR43 : WR 43 = false := rfl
@[simp] theorem OW43 : OW 43 = false := rfl
@[simp] theorem BL45 : BL 45 = none := rfl
@[simp] theorem WR45 : WR 45 = false := rfl
@[simp] theorem OW45 : OW 45 = false := rfl
@[simp] theorem BL21 : BL 21 = none := rfl
@[simp] theorem WR21 : WR 21 = false := rfl
@[simp] theorem OW21 : OW 21 = false := rfl
@[simp] theorem BL44 : BL 44 = none := rfl
@[simp] theorem WR44 : WR 44 = false := rfl
@[simp] theorem OW44 : OW 44 = false := rfl
@[simp] theorem WRt3 : WR 1000003 = false := rfl
@[simp] theorem WRt4 : WR 1000004 = false := rfl
@[simp] theorem WRt5 : WR 1000005 = false := rfl
@[simp] theorem WRt9 : WR 1000009 = false := rfl
@[simp] theorem WRt22 : WR 1000022 = false := rfl
@[simp] theorem WRt29 : WR 1000029 = false := rfl
@[simp] theorem WRt34 : WR 1000034 = false := rfl
@[simp] theorem WRt35 : WR 1000035 = false := rfl
@[simp] theorem WRt37 : WR 1000037 = false := rfl
@[simp] theorem WRt39 : WR 1000039 = false := rfl
@[simp] theorem WRt42 : WR 1000042 = false := rfl
@[simp] theorem WRt43 : WR 1000043 = false := rfl
@[simp] theorem WRt56 : WR 1000056 = false := rfl
noncomputable def F_0 : FuncId → Option Func
  | 3 => some Tryd.f3
  | 4 => some Tryd.f4
  | 5 => some Tryd.f5
  | 6 => some Tryd.f6
  | 7 => some Tryd.f7
  | 8 => some Tryd.f8
  | 9 => some Tryd.f9
  | 10 => some Tryd.f10
  | 11 => some Tryd.f11
  | 12 => some Tryd.f12
  | 13 => some Tryd.f13
  | 14 => some Tryd.f14
  | 15 => some Tryd.f15
  | 16 => some Tryd.f16
  | 17 => some Tryd.f17
  | 18 => some Tryd.f18
  | 19 => some Tryd.f19
  | 20 => some Tryd.f20
  | 22 => some Tryd.f22
  | 23 => some Tryd.f23
  | 24 => some Tryd.f24
  | 25 => some Tryd.f25
  | 26 => some Tryd.f26
  | 27 => some Tryd.f27
  | f => none
noncomputable def F_1 : FuncId → Option Func
  | 28 => some Tryd.f28
  | 29 => some Tryd.f29
  | 30 => some Tryd.f30
  | 31 => some Tryd.f31
  | 32 => some Tryd.f32
  | 33 => some Tryd.f33
  | 34 => some Tryd.f34
  | 36 => some Tryd.f36
  | 37 => some Tryd.f37
  | 38 => some Tryd.f38
  | 39 => some Tryd.f39
  | 40 => some Tryd.f40
  | 41 => some Tryd.f41
  | 43 => some Tryd.f43
  | 45 => some Tryd.f45
  | f => F_0 f
noncomputable def F : FuncId → Option Func := F_1
theorem F3 : F 3 = some Tryd.f3 := rfl
theorem chk3 : ∀ c, Tryd.f3.body = some c → chk WR (K 3) Tryd.f3.ntmps c = true := by intro c h; cases h; decide +kernel
theorem F4 : F 4 = some Tryd.f4 := rfl
theorem chk4 : ∀ c, Tryd.f4.body = some c → chk WR (K 4) Tryd.f4.ntmps c = true := by intro c h; cases h; decide +kernel
theorem F5 : F 5 = some Tryd.f5 := rfl
theorem chk5 : ∀ c, Tryd.f5.body = some c → chk WR (K 5) Tryd.f5.ntmps c = true := by intro c h; cases h; decide +kernel
theorem F6 : F 6 = some Tryd.f6 := rfl
theorem chk6 : ∀ c, Tryd.f6.body = some c → chk WR (K 6) Tryd.f6.ntmps c = true := by intro c h; cases h; decide +kernel
theorem F7 : F 7 = some Tryd.f7 := rfl
theorem chk7 : ∀ c, Tryd.f7.body = some c → chk WR (K 7) Tryd.f7.ntmps c = true := by intro c h; cases h; decide +kernel
theorem F8 : F 8 = some Tryd.f8 := rfl
theorem chk8 : ∀ c, Tryd.f8.body = some c → chk WR (K 8) Tryd.f8.ntmps c = true := by intro c h; cases h; decide +kernel
theorem F9 : F 9 = some Tryd.f9 := rfl
theorem chk9 : ∀ c, Tryd.f9.body = some c → chk WR (K 9) Tryd.f9.ntmps c = true := by intro c h; cases h; decide +kernel
theorem F10 : F 10 = some Tryd.f10 := rfl
theorem chk10 : ∀ c, Tryd.f10.body = some c → chk WR (K 10) Tryd.f10.ntmps c = true := by intro c h; cases h; decide +kernel
theorem F11 : F 11 = some Tryd.f11 := rfl
theorem chk11 : ∀ c, Tryd.f11.body = some c → chk WR (K 11) Tryd.f11.ntmps c = true := by intro c h; cases h; decide +kernel
theorem F12 : F 12 = some Tryd.f12 := rfl
theorem chk12 : ∀ c, Tryd.f12.body = some c → chk WR (K 12) Tryd.f12.ntmps c = true := by intro c h; cases h; decide +kernel
theorem F13 : F 13 = some Tryd.f13 := rfl
theorem chk13 : ∀ c, Tryd.f13.body = some c → chk WR (K 13) Tryd.f13.ntmps c = true := by intro c h; cases h; decide +kernel
theorem F14 : F 14 = some Tryd.f14 := rfl
theorem chk14 : ∀ c, Tryd.f14.body = some c → chk WR (K 14) Tryd.f14.ntmps c = true := by intro c h; cases h; decide +kernel
theorem F15 : F 15 = some Tryd.f15 := rfl
theorem chk15 : ∀ c, Tryd.f15.body = some c → chk WR (K 15) Tryd.f15.ntmps c = true := by intro c h; cases h; decide +kernel
theorem F16 : F 16 = some Tryd.f16 := rfl
theorem chk16 : ∀ c, Tryd.f16.body = some c → chk WR (K 16) Tryd.f16.ntmps c = true := by intro c h; cases h; decide +kernel
theorem F17 : F 17 = some Tryd.f17 := rfl
theorem chk17 : ∀ c, Tryd.f17.body = some c → chk WR (K 17) Tryd.f17.ntmps c = true := by intro c h; cases h; decide +kernel
theorem F18 : F 18 = some Tryd.f18 := rfl
theorem chk18 : ∀ c, Tryd.f18.body = some c → chk WR (K 18) Tryd.f18.ntmps c = true := by intro c h; cases h; decide +kernel
theorem F19 : F 19 = some Tryd.f19 := rfl
theorem chk19 : ∀ c, Tryd.f19.body = some c → chk WR (K 19) Tryd.f19.ntmps c = true := by intro c h; cases h; decide +kernel
theorem F20 : F 20 = some Tryd.f20 := rfl
theorem chk20 : ∀ c, Tryd.f20.body = some c → chk WR (K 20) Tryd.f20.ntmps c = true := by intro c h; cases h; decide +kernel
theorem F22 : F 22 = some Tryd.f22 := rfl
theorem chk22 : ∀ c, Tryd.f22.body = some c → chk WR (K 22) Tryd.f22.ntmps c = true := by intro c h; cases h; decide +kernel
theorem F23 : F 23 = some Tryd.f23 := rfl
theorem chk23 : ∀ c, Tryd.f23.body = some c → chk WR (K 23) Tryd.f23.ntmps c = true := by intro c h; cases h; decide +kernel
theorem F24 : F 24 = some Tryd.f24 := rfl
theorem chk24 : ∀ c, Tryd.f24.body = some c → chk WR (K 24) Tryd.f24.ntmps c = true := by intro c h; cases h; decide +kernel
theorem F25 : F 25 = some Tryd.f25 := rfl
theorem chk25 : ∀ c, Tryd.f25.body = some c → chk WR (K 25) Tryd.f25.ntmps c = true := by intro c h; cases h; decide +kernel
theorem F26 : F 26 = some Tryd.f26 := rfl
theorem chk26 : ∀ c, Tryd.f26.body = some c → chk WR (K 26) Tryd.f26.ntmps c = true := by intro c h; cases h; decide +kernel
theorem F27 : F 27 = some Tryd.f27 := rfl
theorem chk27 : ∀ c, Tryd.f27.body = some c → chk WR (K 27) Tryd.f27.ntmps c = true := by intro c h; cases h; decide +kernel
theorem F28 : F 28 = some Tryd.f28 := rfl
theorem chk28 : ∀ c, Tryd.f28.body = some c → chk WR (K 28) Tryd.f28.ntmps c = true := by intro c h; cases h; decide +kernel
theorem F29 : F 29 = some Tryd.f29 := rfl
theorem chk29 : ∀ c, Tryd.f29.body = some c → chk WR (K 29) Tryd.f29.ntmps c = true := by intro c h; cases h; decide +kernel
theorem F30 : F 30 = some Tryd.f30 := rfl
theorem chk30 : ∀ c, Tryd.f30.body = some c → chk WR (K 30) Tryd.f30.ntmps c = true := by intro c h; cases h; decide +kernel
theorem F31 : F 31 = some Tryd.f31 := rfl
theorem chk31 : ∀ c, Tryd.f31.body = some c → chk WR (K 31) Tryd.f31.ntmps c = true := by intro c h; cases h; decide +kernel
theorem F32 : F 32 = some Tryd.f32 := rfl
theorem chk32 : ∀ c, Tryd.f32.body = some c → chk WR (K 32) Tryd.f32.ntmps c = true := by intro c h; cases h; decide +kernel
theorem F33 : F 33 = some Tryd.f33 := rfl
theorem chk33 : ∀ c, Tryd.f33.body = some c → chk WR (K 33) Tryd.f33.ntmps c = true := by intro c h; cases h; decide +kernel
theorem F34 : F 34 = some Tryd.f34 := rfl
theorem chk34 : ∀ c, Tryd.f34.body = some c → chk WR (K 34) Tryd.f34.ntmps c = true := by intro c h; cases h; decide +kernel
theorem F36 : F 36 = some Tryd.f36 := rfl
theorem chk36 : ∀ c, Tryd.f36.body = some c → chk WR (K 36) Tryd.f36.ntmps c = true := by intro c h; cases h; decide +kernel
theorem F37 : F 37 = some Tryd.f37 := rfl
theorem chk37 : ∀ c, Tryd.f37.body = some c → chk WR (K 37) Tryd.f37.ntmps c = true := by intro c h; cases h; decide +kernel
theorem F38 : F 38 = some Tryd.f38 := rfl
theorem chk38 : ∀ c, Tryd.f38.body = some c → chk WR (K 38) Tryd.f38.ntmps c = true := by intro c h; cases h; decide +kernel
theorem F39 : F 39 = some Tryd.f39 := rfl
theorem chk39 : ∀ c, Tryd.f39.body = some c → chk WR (K 39) Tryd.f39.ntmps c = true := by intro c h; cases h; decide +kernel
theorem F40 : F 40 = some Tryd.f40 := rfl
theorem chk40 : ∀ c, Tryd.f40.body = some c → chk WR (K 40) Tryd.f40.ntmps c = true := by intro c h; cases h; decide +kernel
theorem F41 : F 41 = some Tryd.f41 := rfl
theorem chk41 : ∀ c, Tryd.f41.body = some c → chk WR (K 41) Tryd.f41.ntmps c = true := by intro c h; cases h; decide +kernel
theorem F43 : F 43 = some Tryd.f43 := rfl
theorem chk43 : ∀ c, Tryd.f43.body = some c → chk WR (K 43) Tryd.f43.ntmps c = true := by intro c h; cases h; decide +kernel
theorem F45 : F 45 = some Tryd.f45 := rfl
theorem chk45 : ∀ c, Tryd.f45.body = some c → chk WR (K 45) Tryd.f45.ntmps c = true := by intro c h; cases h; decide +kernel
theorem ent {f : FuncId} {fn : Func} (h : Tryd.prog.funcs[f]? = some fn) (hb : fn.body.isSome = true) (hn : (fn.name == "runtime.NumGoroutine") = false) : Enters Tryd.prog f := enters_mk h hb hn
theorem okF_0 : ∀ f fn, F_0 f = some fn → Tryd.prog.funcs[f]? = some fn ∧ Enters Tryd.prog f ∧ ∀ c, fn.body = some c → chk WR (K f) fn.ntmps c = true := by
  intro f fn h
  unfold F_0 at h
  split at h
  · cases h; exact ⟨Tryd.func3, ent Tryd.func3 rfl rfl, chk3⟩
  · cases h; exact ⟨Tryd.func4, ent Tryd.func4 rfl rfl, chk4⟩
  · cases h; exact ⟨Tryd.func5, ent Tryd.func5 rfl rfl, chk5⟩
  · cases h; exact ⟨Tryd.func6, ent Tryd.func6 rfl rfl, chk6⟩
  · cases h; exact ⟨Tryd.func7, ent Tryd.func7 rfl rfl, chk7⟩
  · cases h; exact ⟨Tryd.func8, ent Tryd.func8 rfl rfl, chk8⟩
  · cases h; exact ⟨Tryd.func9, ent Tryd.func9 rfl rfl, chk9⟩
  · cases h; exact ⟨Tryd.func10, ent Tryd.func10 rfl rfl, chk10⟩
  · cases h; exact ⟨Tryd.func11, ent Tryd.func11 rfl rfl, chk11⟩
  · cases h; exact ⟨Tryd.func12, ent Tryd.func12 rfl rfl, chk12⟩
  · cases h; exact ⟨Tryd.func13, ent Tryd.func13 rfl rfl, chk13⟩
  · cases h; exact ⟨Tryd.func14, ent Tryd.func14 rfl rfl, chk14⟩
  · cases h; exact ⟨Tryd.func15, ent Tryd.func15 rfl rfl, chk15⟩
  · cases h; exact ⟨Tryd.func16, ent Tryd.func16 rfl rfl, chk16⟩
  · cases h; exact ⟨Tryd.func17, ent Tryd.func17 rfl rfl, chk17⟩
  · cases h; exact ⟨Tryd.func18, ent Tryd.func18 rfl rfl, chk18⟩
  · cases h; exact ⟨Tryd.func19, ent Tryd.func19 rfl rfl, chk19⟩
  · cases h; exact ⟨Tryd.func20, ent Tryd.func20 rfl rfl, chk20⟩
  · cases h; exact ⟨Tryd.func22, ent Tryd.func22 rfl rfl, chk22⟩
  · cases h; exact ⟨Tryd.func23, ent Tryd.func23 rfl rfl, chk23⟩
  · cases h; exact ⟨Tryd.func24, ent Tryd.func24 rfl rfl, chk24⟩
  · cases h; exact ⟨Tryd.func25, ent Tryd.func25 rfl rfl, chk25⟩
  · cases h; exact ⟨Tryd.func26, ent Tryd.func26 rfl rfl, chk26⟩
  · cases h; exact ⟨Tryd.func27, ent Tryd.func27 rfl rfl, chk27⟩
  · cases h
theorem okF_1 : ∀ f fn, F_1 f = some fn → Tryd.prog.funcs[f]? = some fn ∧ Enters Tryd.prog f ∧ ∀ c, fn.body = some c → chk WR (K f) fn.ntmps c = true := by
  intro f fn h
  unfold F_1 at h
  split at h
  · cases h; exact ⟨Tryd.func28, ent Tryd.func28 rfl rfl, chk28⟩
  · cases h; exact ⟨Tryd.func29, ent Tryd.func29 rfl rfl, chk29⟩
  · cases h; exact ⟨Tryd.func30, ent Tryd.func30 rfl rfl, chk30⟩
  · cases h; exact ⟨Tryd.func31, ent Tryd.func31 rfl rfl, chk31⟩
  · cases h; exact ⟨Tryd.func32, ent Tryd.func32 rfl rfl, chk32⟩
  · cases h; exact ⟨Tryd.func33, ent Tryd.func33 rfl rfl, chk33⟩
  · cases h; exact ⟨Tryd.func34, ent Tryd.func34 rfl rfl, chk34⟩
  · cases h; exact ⟨Tryd.func36, ent Tryd.func36 rfl rfl, chk36⟩
  · cases h; exact ⟨Tryd.func37, ent Tryd.func37 rfl rfl, chk37⟩
  · cases h; exact ⟨Tryd.func38, ent Tryd.func38 rfl rfl, chk38⟩
  · cases h; exact ⟨Tryd.func39, ent Tryd.func39 rfl rfl, chk39⟩
  · cases h; exact ⟨Tryd.func40, ent Tryd.func40 rfl rfl, chk40⟩
  · cases h; exact ⟨Tryd.func41, ent Tryd.func41 rfl rfl, chk41⟩
  · cases h; exact ⟨Tryd.func43, ent Tryd.func43 rfl rfl, chk43⟩
  · cases h; exact ⟨Tryd.func45, ent Tryd.func45 rfl rfl, chk45⟩
  · exact okF_0 _ _ h
end Go.Proofs.YteedcjgmgbcndaaDoor.Eng
