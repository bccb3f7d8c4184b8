/- The types, the functions and the loops' live slots that the laws reach, first part. No conditions. -/
import Derived.Test.YtemkckldfmpplaaEngS
import Derived.Test.YtemkckldfmpplaaProg
import Derived.KernelRfl
import Derived.WalkKit
namespace Go.Proofs.Ytemkckldfmpplaa.Eng
open Go Go.Proofs
set_option maxRecDepth 100000
def T : Tab
  | 3 => some ⟨.int .i64, 1, 8, [.int .i64 0], true⟩
  | 4 => some ⟨.bool, 1, 1, [.bool false], true⟩
  | 22 => some ⟨(.slice 3), 1, 24, [.slice none 0 0], false⟩
  | 24 => some ⟨(.struct [(0, 1, false), (1, 1, false), (2, 1, false)]), 3, 40, [.int .i64 0, .int .i64 0, .slice none 0 0], false⟩
  | 26 => some ⟨(.slice 22), 1, 24, [.slice none 0 0], false⟩
  | 29 => some ⟨(.struct [(0, 1, false), (1, 1, false), (2, 1, false)]), 3, 40, [.int .i64 0, .int .i64 0, .slice none 0 0], false⟩
  | 44 => some ⟨.oth, 1, 8, [.nilFunc], false⟩
  | _ => none
theorem T3 : T 3 = some ⟨.int .i64, 1, 8, [.int .i64 0], true⟩ := rfl
theorem ok3 : TiOk Try.prog 3 ⟨.int .i64, 1, 8, [.int .i64 0], true⟩ := ⟨(by kernel_rfl : Try.prog.underlying 3 = _), (TiOk.of_info (z := (.int .i64 0)) (by kernel_rfl) rfl), rfl, by decide, (fun h => absurd h (by decide))⟩
theorem T4 : T 4 = some ⟨.bool, 1, 1, [.bool false], true⟩ := rfl
theorem ok4 : TiOk Try.prog 4 ⟨.bool, 1, 1, [.bool false], true⟩ := ⟨(by kernel_rfl : Try.prog.underlying 4 = _), (TiOk.of_info (z := (.bool false)) (by kernel_rfl) rfl), rfl, by decide, (fun h => absurd h (by decide))⟩
theorem T22 : T 22 = some ⟨(.slice 3), 1, 24, [.slice none 0 0], false⟩ := rfl
theorem ok22 : TiOk Try.prog 22 ⟨(.slice 3), 1, 24, [.slice none 0 0], false⟩ := ⟨(by kernel_rfl : Try.prog.underlying 22 = _), (TiOk.of_info (z := (.slice none 0 0)) (by kernel_rfl) rfl), rfl, by decide, (fun h => absurd h (by decide))⟩
theorem T24 : T 24 = some ⟨(.struct [(0, 1, false), (1, 1, false), (2, 1, false)]), 3, 40, [.int .i64 0, .int .i64 0, .slice none 0 0], false⟩ := rfl
theorem ok24 : TiOk Try.prog 24 ⟨(.struct [(0, 1, false), (1, 1, false), (2, 1, false)]), 3, 40, [.int .i64 0, .int .i64 0, .slice none 0 0], false⟩ := ⟨TiOk.of_struct Try.underlying24 (by kernel_rfl), (TiOk.of_info (z := (.agg #[.int .i64 0, .int .i64 0, .slice none 0 0])) (by kernel_rfl) rfl), rfl, by decide, (fun h => absurd h (by decide))⟩
theorem T26 : T 26 = some ⟨(.slice 22), 1, 24, [.slice none 0 0], false⟩ := rfl
theorem ok26 : TiOk Try.prog 26 ⟨(.slice 22), 1, 24, [.slice none 0 0], false⟩ := ⟨(by kernel_rfl : Try.prog.underlying 26 = _), (TiOk.of_info (z := (.slice none 0 0)) (by kernel_rfl) rfl), rfl, by decide, (fun h => absurd h (by decide))⟩
theorem T29 : T 29 = some ⟨(.struct [(0, 1, false), (1, 1, false), (2, 1, false)]), 3, 40, [.int .i64 0, .int .i64 0, .slice none 0 0], false⟩ := rfl
theorem ok29 : TiOk Try.prog 29 ⟨(.struct [(0, 1, false), (1, 1, false), (2, 1, false)]), 3, 40, [.int .i64 0, .int .i64 0, .slice none 0 0], false⟩ := ⟨TiOk.of_struct Try.underlying29 (by kernel_rfl), (TiOk.of_info (z := (.agg #[.int .i64 0, .int .i64 0, .slice none 0 0])) (by kernel_rfl) rfl), rfl, by decide, (fun h => absurd h (by decide))⟩
theorem T44 : T 44 = some ⟨.oth, 1, 8, [.nilFunc], false⟩ := rfl
theorem ok44 : TiOk Try.prog 44 ⟨.oth, 1, 8, [.nilFunc], false⟩ := ⟨⟨_, Try.underlying44, rfl⟩, (TiOk.of_info (z := (.nilFunc)) (by kernel_rfl) rfl), rfl, by decide, (fun h => absurd h (by decide))⟩
theorem tabOk : TabOk Try.prog T := by
  intro t i h
  unfold T at h
  split at h
  · cases h; exact ok3
  · cases h; exact ok4
  · cases h; exact ok22
  · cases h; exact ok24
  · cases h; exact ok26
  · cases h; exact ok29
  · cases h; exact ok44
  · cases h
set_option maxHeartbeats 1000000
def WR (f : FuncId) : Bool := f == 10 || f == 11 || f == 23
def OW (f : FuncId) : Bool := f == 10 || f == 11 || f == 23
def BL : FuncId → Option (Nat × TypeId × TypeId)
  | 5 => some (9, 0, 0)
  | 7 => some (9, 0, 0)
  | 11 => some (9, 0, 0)
  | _ => none
def K : FuncId → Nat → List Nat
  | 5, 0 => [1, 2, 6, 7, 999]
  | 5, 1 => [1, 2, 6, 7, 8, 999]
  | 7, 0 => [1, 2, 6, 23, 24, 25, 999]
  | 7, 1 => [1, 2, 6, 8, 9, 10, 11, 23, 24, 25, 42, 43, 44, 999]
  | 8, 0 => [0, 1, 5]
  | 11, 0 => [0, 1, 5, 999]
  | 12, 0 => [0, 1, 5]
  | 14, 0 => [1, 3]
  | 17, 0 => [1, 2, 3, 4, 9, 10]
  | 17, 1 => [1, 2, 3, 4, 9, 10, 11]
  | 17, 2 => [1, 2, 3, 4, 9, 10, 11, 12, 13]
  | 17, 3 => [1, 2, 3, 4, 9, 10, 11, 12, 13, 14]
  | 18, 0 => [0, 3, 4]
  | 21, 0 => [1, 2, 3, 4, 9, 10]
  | 21, 1 => [1, 2, 3, 4, 9, 10, 11]
  | 22, 0 => [0, 1, 5]
  | 23, 0 => [0, 1, 5]
  | 24, 0 => [0, 1, 5]
  | 32, 0 => [0, 1, 7, 8]
  | 5, 2000 => [1]
  | 5, 2001 => [1]
  | 5, 2002 => [1]
  | 5, 2003 => [1]
  | 5, 2004 => [1]
  | 5, 2005 => [1]
  | 5, 2007 => [1]
  | 5, 2008 => [1]
  | 5, 2010 => [1]
  | 5, 2011 => [1]
  | 5, 2012 => [1]
  | 5, 2013 => [1]
  | 5, 2009 => [1]
  | 5, 2006 => [1]
  | 5, 2014 => [1]
  | 7, 2000 => [1]
  | 7, 2001 => [1]
  | 7, 2002 => [1]
  | 7, 2003 => [1]
  | 7, 2004 => [1]
  | 7, 2005 => [1]
  | 7, 2006 => [1]
  | 7, 2008 => [1]
  | 7, 2009 => [1]
  | 7, 2010 => [1]
  | 7, 2011 => [1]
  | 7, 2012 => [1]
  | 7, 2013 => [1]
  | 7, 2014 => [1]
  | 7, 2015 => [1]
  | 7, 2016 => [1]
  | 7, 2017 => [1]
  | 7, 2018 => [1]
  | 11, 2000 => [1]
  | 11, 2001 => [1]
  | 11, 2002 => [1]
  | 11, 2004 => [1]
  | 11, 2003 => [1]
  | 11, 2005 => [1]
  | _, _ => []
@[simp] theorem K5_0 : K 5 0 = [1, 2, 6, 7, 999] := rfl
@[simp] theorem K5_1 : K 5 1 = [1, 2, 6, 7, 8, 999] := rfl
@[simp] theorem K7_0 : K 7 0 = [1, 2, 6, 23, 24, 25, 999] := rfl
@[simp] theorem K7_1 : K 7 1 = [1, 2, 6, 8, 9, 10, 11, 23, 24, 25, 42, 43, 44, 999] := rfl
@[simp] theorem K8_0 : K 8 0 = [0, 1, 5] := rfl
@[simp] theorem K11_0 : K 11 0 = [0, 1, 5, 999] := rfl
@[simp] theorem K12_0 : K 12 0 = [0, 1, 5] := rfl
@[simp] theorem K14_0 : K 14 0 = [1, 3] := rfl
@[simp] theorem K17_0 : K 17 0 = [1, 2, 3, 4, 9, 10] := rfl
@[simp] theorem K17_1 : K 17 1 = [1, 2, 3, 4, 9, 10, 11] := rfl
@[simp] theorem K17_2 : K 17 2 = [1, 2, 3, 4, 9, 10, 11, 12, 13] := rfl
@[simp] theorem K17_3 : K 17 3 = [1, 2, 3, 4, 9, 10, 11, 12, 13, 14] := rfl
@[simp] theorem K18_0 : K 18 0 = [0, 3, 4] := rfl
@[simp] theorem K21_0 : K 21 0 = [1, 2, 3, 4, 9, 10] := rfl
@[simp] theorem K21_1 : K 21 1 = [1, 2, 3, 4, 9, 10, 11] := rfl
@[simp] theorem K22_0 : K 22 0 = [0, 1, 5] := rfl
@[simp] theorem K23_0 : K 23 0 = [0, 1, 5] := rfl
@[simp] theorem K24_0 : K 24 0 = [0, 1, 5] := rfl
@[simp] theorem K32_0 : K 32 0 = [0, 1, 7, 8] := rfl
@[simp] theorem K3_2000 : K 3 2000 = [] := rfl
@[simp] theorem K3_2001 : K 3 2001 = [] := rfl
@[simp] theorem K3_2002 : K 3 2002 = [] := rfl
@[simp] theorem K3_2003 : K 3 2003 = [] := rfl
@[simp] theorem K3_2004 : K 3 2004 = [] := rfl
@[simp] theorem K3_2005 : K 3 2005 = [] := rfl
@[simp] theorem K3_2006 : K 3 2006 = [] := rfl
@[simp] theorem K3_2007 : K 3 2007 = [] := rfl
@[simp] theorem K3_2008 : K 3 2008 = [] := rfl
@[simp] theorem K3_2009 : K 3 2009 = [] := rfl
@[simp] theorem K3_2011 : K 3 2011 = [] := rfl
@[simp] theorem K3_2012 : K 3 2012 = [] := rfl
@[simp] theorem K3_2013 : K 3 2013 = [] := rfl
@[simp] theorem K3_2014 : K 3 2014 = [] := rfl
@[simp] theorem K3_2015 : K 3 2015 = [] := rfl
@[simp] theorem K3_2016 : K 3 2016 = [] := rfl
@[simp] theorem K3_2017 : K 3 2017 = [] := rfl
@[simp] theorem K3_2018 : K 3 2018 = [] := rfl
@[simp] theorem K3_2019 : K 3 2019 = [] := rfl
@[simp] theorem K3_2020 : K 3 2020 = [] := rfl
@[simp] theorem K3_2021 : K 3 2021 = [] := rfl
@[simp] theorem K3_2022 : K 3 2022 = [] := rfl
@[simp] theorem K3_2023 : K 3 2023 = [] := rfl
@[simp] theorem K3_2024 : K 3 2024 = [] := rfl
@[simp] theorem K3_2025 : K 3 2025 = [] := rfl
@[simp] theorem K3_2026 : K 3 2026 = [] := rfl
@[simp] theorem K3_2027 : K 3 2027 = [] := rfl
@[simp] theorem K3_2028 : K 3 2028 = [] := rfl
@[simp] theorem K3_2029 : K 3 2029 = [] := rfl
@[simp] theorem K3_2030 : K 3 2030 = [] := rfl
@[simp] theorem K3_2031 : K 3 2031 = [] := rfl
@[simp] theorem K3_2032 : K 3 2032 = [] := rfl
@[simp] theorem K3_2033 : K 3 2033 = [] := rfl
@[simp] theorem K4_2000 : K 4 2000 = [] := rfl
@[simp] theorem K4_2001 : K 4 2001 = [] := rfl
@[simp] theorem K4_2002 : K 4 2002 = [] := rfl
@[simp] theorem K4_2003 : K 4 2003 = [] := rfl
@[simp] theorem K4_2004 : K 4 2004 = [] := rfl
@[simp] theorem K5_2000 : K 5 2000 = [1] := rfl
@[simp] theorem K5_2001 : K 5 2001 = [1] := rfl
@[simp] theorem K5_2002 : K 5 2002 = [1] := rfl
@[simp] theorem K5_2003 : K 5 2003 = [1] := rfl
@[simp] theorem K5_2004 : K 5 2004 = [1] := rfl
@[simp] theorem K5_2005 : K 5 2005 = [1] := rfl
@[simp] theorem K5_2007 : K 5 2007 = [1] := rfl
@[simp] theorem K5_2008 : K 5 2008 = [1] := rfl
@[simp] theorem K5_2010 : K 5 2010 = [1] := rfl
@[simp] theorem K5_2011 : K 5 2011 = [1] := rfl
@[simp] theorem K5_2012 : K 5 2012 = [1] := rfl
@[simp] theorem K5_2013 : K 5 2013 = [1] := rfl
@[simp] theorem K5_2009 : K 5 2009 = [1] := rfl
@[simp] theorem K5_2006 : K 5 2006 = [1] := rfl
@[simp] theorem K5_2014 : K 5 2014 = [1] := rfl
@[simp] theorem K6_2000 : K 6 2000 = [] := rfl
@[simp] theorem K6_2001 : K 6 2001 = [] := rfl
@[simp] theorem K6_2002 : K 6 2002 = [] := rfl
@[simp] theorem K6_2003 : K 6 2003 = [] := rfl
@[simp] theorem K6_2004 : K 6 2004 = [] := rfl
@[simp] theorem K6_2005 : K 6 2005 = [] := rfl
@[simp] theorem K7_2000 : K 7 2000 = [1] := rfl
@[simp] theorem K7_2001 : K 7 2001 = [1] := rfl
@[simp] theorem K7_2002 : K 7 2002 = [1] := rfl
@[simp] theorem K7_2003 : K 7 2003 = [1] := rfl
@[simp] theorem K7_2004 : K 7 2004 = [1] := rfl
@[simp] theorem K7_2005 : K 7 2005 = [1] := rfl
@[simp] theorem K7_2006 : K 7 2006 = [1] := rfl
@[simp] theorem K7_2008 : K 7 2008 = [1] := rfl
@[simp] theorem K7_2009 : K 7 2009 = [1] := rfl
@[simp] theorem K7_2010 : K 7 2010 = [1] := rfl
@[simp] theorem K7_2011 : K 7 2011 = [1] := rfl
@[simp] theorem K7_2012 : K 7 2012 = [1] := rfl
@[simp] theorem K7_2013 : K 7 2013 = [1] := rfl
@[simp] theorem K7_2014 : K 7 2014 = [1] := rfl
@[simp] theorem K7_2015 : K 7 2015 = [1] := rfl
@[simp] theorem K7_2016 : K 7 2016 = [1] := rfl
@[simp] theorem K7_2017 : K 7 2017 = [1] := rfl
@[simp] theorem K7_2018 : K 7 2018 = [1] := rfl
@[simp] theorem K8_2000 : K 8 2000 = [] := rfl
@[simp] theorem K8_2001 : K 8 2001 = [] := rfl
@[simp] theorem K8_2002 : K 8 2002 = [] := rfl
@[simp] theorem K8_2003 : K 8 2003 = [] := rfl
@[simp] theorem K8_2004 : K 8 2004 = [] := rfl
@[simp] theorem K8_2007 : K 8 2007 = [] := rfl
@[simp] theorem K8_2005 : K 8 2005 = [] := rfl
@[simp] theorem K8_2008 : K 8 2008 = [] := rfl
@[simp] theorem K9_2000 : K 9 2000 = [] := rfl
@[simp] theorem K9_2001 : K 9 2001 = [] := rfl
@[simp] theorem K9_2002 : K 9 2002 = [] := rfl
@[simp] theorem K9_2003 : K 9 2003 = [] := rfl
@[simp] theorem K9_2004 : K 9 2004 = [] := rfl
@[simp] theorem K9_2005 : K 9 2005 = [] := rfl
@[simp] theorem K9_2006 : K 9 2006 = [] := rfl
@[simp] theorem K9_2007 : K 9 2007 = [] := rfl
@[simp] theorem K10_2000 : K 10 2000 = [] := rfl
@[simp] theorem K10_2001 : K 10 2001 = [] := rfl
@[simp] theorem K10_2002 : K 10 2002 = [] := rfl
@[simp] theorem K11_2000 : K 11 2000 = [1] := rfl
@[simp] theorem K11_2001 : K 11 2001 = [1] := rfl
@[simp] theorem K11_2002 : K 11 2002 = [1] := rfl
@[simp] theorem K11_2004 : K 11 2004 = [1] := rfl
@[simp] theorem K11_2003 : K 11 2003 = [1] := rfl
@[simp] theorem K11_2005 : K 11 2005 = [1] := rfl
@[simp] theorem K12_2000 : K 12 2000 = [] := rfl
@[simp] theorem K12_2001 : K 12 2001 = [] := rfl
@[simp] theorem K12_2002 : K 12 2002 = [] := rfl
@[simp] theorem K12_2004 : K 12 2004 = [] := rfl
@[simp] theorem K12_2005 : K 12 2005 = [] := rfl
@[simp] theorem K12_2006 : K 12 2006 = [] := rfl
@[simp] theorem K12_2003 : K 12 2003 = [] := rfl
@[simp] theorem K12_2007 : K 12 2007 = [] := rfl
@[simp] theorem K13_2000 : K 13 2000 = [] := rfl
@[simp] theorem K13_2001 : K 13 2001 = [] := rfl
@[simp] theorem K13_2002 : K 13 2002 = [] := rfl
@[simp] theorem K13_2003 : K 13 2003 = [] := rfl
@[simp] theorem K13_2004 : K 13 2004 = [] := rfl
@[simp] theorem K14_2000 : K 14 2000 = [] := rfl
@[simp] theorem K14_2001 : K 14 2001 = [] := rfl
@[simp] theorem K14_2002 : K 14 2002 = [] := rfl
@[simp] theorem K14_2003 : K 14 2003 = [] := rfl
@[simp] theorem K14_2004 : K 14 2004 = [] := rfl
@[simp] theorem K14_2006 : K 14 2006 = [] := rfl
@[simp] theorem K14_2007 : K 14 2007 = [] := rfl
@[simp] theorem K14_2005 : K 14 2005 = [] := rfl
@[simp] theorem K14_2008 : K 14 2008 = [] := rfl
@[simp] theorem K15_2000 : K 15 2000 = [] := rfl
@[simp] theorem K15_2001 : K 15 2001 = [] := rfl
@[simp] theorem K16_2000 : K 16 2000 = [] := rfl
@[simp] theorem K16_2001 : K 16 2001 = [] := rfl
@[simp] theorem K17_2000 : K 17 2000 = [] := rfl
@[simp] theorem K17_2001 : K 17 2001 = [] := rfl
@[simp] theorem K17_2002 : K 17 2002 = [] := rfl
@[simp] theorem K17_2003 : K 17 2003 = [] := rfl
@[simp] theorem K17_2005 : K 17 2005 = [] := rfl
@[simp] theorem K17_2006 : K 17 2006 = [] := rfl
@[simp] theorem K17_2008 : K 17 2008 = [] := rfl
@[simp] theorem K17_2009 : K 17 2009 = [] := rfl
@[simp] theorem K17_2010 : K 17 2010 = [] := rfl
@[simp] theorem K17_2011 : K 17 2011 = [] := rfl
@[simp] theorem K17_2012 : K 17 2012 = [] := rfl
@[simp] theorem K17_2013 : K 17 2013 = [] := rfl
@[simp] theorem K17_2014 : K 17 2014 = [] := rfl
@[simp] theorem K17_2015 : K 17 2015 = [] := rfl
@[simp] theorem K17_2017 : K 17 2017 = [] := rfl
@[simp] theorem K17_2016 : K 17 2016 = [] := rfl
@[simp] theorem K17_2018 : K 17 2018 = [] := rfl
@[simp] theorem K17_2007 : K 17 2007 = [] := rfl
@[simp] theorem K17_2004 : K 17 2004 = [] := rfl
@[simp] theorem K17_2019 : K 17 2019 = [] := rfl
@[simp] theorem K18_2000 : K 18 2000 = [] := rfl
@[simp] theorem K18_2001 : K 18 2001 = [] := rfl
@[simp] theorem K18_2002 : K 18 2002 = [] := rfl
@[simp] theorem K18_2003 : K 18 2003 = [] := rfl
@[simp] theorem K18_2005 : K 18 2005 = [] := rfl
@[simp] theorem K18_2004 : K 18 2004 = [] := rfl
@[simp] theorem K18_2006 : K 18 2006 = [] := rfl
@[simp] theorem K19_2000 : K 19 2000 = [] := rfl
@[simp] theorem K19_2001 : K 19 2001 = [] := rfl
@[simp] theorem K20_2000 : K 20 2000 = [] := rfl
@[simp] theorem K20_2001 : K 20 2001 = [] := rfl
@[simp] theorem K21_2000 : K 21 2000 = [] := rfl
@[simp] theorem K21_2001 : K 21 2001 = [] := rfl
@[simp] theorem K21_2002 : K 21 2002 = [] := rfl
@[simp] theorem K21_2003 : K 21 2003 = [] := rfl
@[simp] theorem K21_2005 : K 21 2005 = [] := rfl
@[simp] theorem K21_2006 : K 21 2006 = [] := rfl
@[simp] theorem K21_2008 : K 21 2008 = [] := rfl
@[simp] theorem K21_2009 : K 21 2009 = [] := rfl
@[simp] theorem K21_2010 : K 21 2010 = [] := rfl
@[simp] theorem K21_2007 : K 21 2007 = [] := rfl
@[simp] theorem K21_2004 : K 21 2004 = [] := rfl
@[simp] theorem K21_2011 : K 21 2011 = [] := rfl
@[simp] theorem K22_2000 : K 22 2000 = [] := rfl
@[simp] theorem K22_2001 : K 22 2001 = [] := rfl
@[simp] theorem K22_2002 : K 22 2002 = [] := rfl
@[simp] theorem K22_2003 : K 22 2003 = [] := rfl
@[simp] theorem K22_2004 : K 22 2004 = [] := rfl
@[simp] theorem K22_2007 : K 22 2007 = [] := rfl
@[simp] theorem K22_2005 : K 22 2005 = [] := rfl
@[simp] theorem K22_2008 : K 22 2008 = [] := rfl
@[simp] theorem K23_2000 : K 23 2000 = [] := rfl
@[simp] theorem K23_2001 : K 23 2001 = [] := rfl
@[simp] theorem K23_2002 : K 23 2002 = [] := rfl
@[simp] theorem K23_2004 : K 23 2004 = [] := rfl
@[simp] theorem K23_2005 : K 23 2005 = [] := rfl
@[simp] theorem K23_2003 : K 23 2003 = [] := rfl
@[simp] theorem K23_2006 : K 23 2006 = [] := rfl
@[simp] theorem K24_2000 : K 24 2000 = [] := rfl
@[simp] theorem K24_2001 : K 24 2001 = [] := rfl
@[simp] theorem K24_2002 : K 24 2002 = [] := rfl
@[simp] theorem K24_2004 : K 24 2004 = [] := rfl
@[simp] theorem K24_2005 : K 24 2005 = [] := rfl
@[simp] theorem K24_2006 : K 24 2006 = [] := rfl
@[simp] theorem K24_2003 : K 24 2003 = [] := rfl
@[simp] theorem K24_2007 : K 24 2007 = [] := rfl
@[simp] theorem K25_2000 : K 25 2000 = [] := rfl
@[simp] theorem K25_2001 : K 25 2001 = [] := rfl
@[simp] theorem K26_2000 : K 26 2000 = [] := rfl
@[simp] theorem K26_2001 : K 26 2001 = [] := rfl
@[simp] theorem K27_2000 : K 27 2000 = [] := rfl
@[simp] theorem K27_2001 : K 27 2001 = [] := rfl
@[simp] theorem K27_2002 : K 27 2002 = [] := rfl
@[simp] theorem K27_2003 : K 27 2003 = [] := rfl
@[simp] theorem K28_2000 : K 28 2000 = [] := rfl
@[simp] theorem K28_2001 : K 28 2001 = [] := rfl
@[simp] theorem K28_2002 : K 28 2002 = [] := rfl
@[simp] theorem K28_2003 : K 28 2003 = [] := rfl
@[simp] theorem K29_2000 : K 29 2000 = [] := rfl
@[simp] theorem K29_2001 : K 29 2001 = [] := rfl
@[simp] theorem K30_2000 : K 30 2000 = [] := rfl
@[simp] theorem K30_2001 : K 30 2001 = [] := rfl
@[simp] theorem K31_2000 : K 31 2000 = [] := rfl
@[simp] theorem K31_2001 : K 31 2001 = [] := rfl
@[simp] theorem K32_2000 : K 32 2000 = [] := rfl
@[simp] theorem K32_2001 : K 32 2001 = [] := rfl
@[simp] theorem K32_2002 : K 32 2002 = [] := rfl
@[simp] theorem K32_2003 : K 32 2003 = [] := rfl
@[simp] theorem K32_2004 : K 32 2004 = [] := rfl
@[simp] theorem K32_2005 : K 32 2005 = [] := rfl
@[simp] theorem K32_2006 : K 32 2006 = [] := rfl
@[simp] theorem K32_2007 : K 32 2007 = [] := rfl
@[simp] theorem K3_1010 : K 3 1010 = [] := rfl
@[simp] theorem K7_1007 : K 7 1007 = [] := rfl
@[simp] theorem K8_1006 : K 8 1006 = [] := rfl
@[simp] theorem K22_1006 : K 22 1006 = [] := rfl
@[simp] theorem BL3 : BL 3 = none := rfl
@[simp] theorem WR3 : WR 3 = false := rfl
@[simp] theorem OW3 : OW 3 = false := rfl
@[simp] theorem BL4 : BL 4 = none := rfl
@[simp] theorem WR4 : WR 4 = false := rfl
@[simp] theorem OW4 : OW 4 = false := rfl
@[simp] theorem BL5 : BL 5 = some (9, 0, 0) := rfl
@[simp] theorem WR5 : WR 5 = false := rfl
@[simp] theorem OW5 : OW 5 = false := rfl
@[simp] theorem BL6 : BL 6 = none := rfl
@[simp] theorem WR6 : WR 6 = false := rfl
@[simp] theorem OW6 : OW 6 = false := rfl
@[simp] theorem BL7 : BL 7 = some (9, 0, 0) := rfl
@[simp] theorem WR7 : WR 7 = false := rfl
@[simp] theorem OW7 : OW 7 = false := rfl
@[simp] theorem BL8 : BL 8 = none := rfl
@[simp] theorem WR8 : WR 8 = false := rfl
@[simp] theorem OW8 : OW 8 = false := rfl
@[simp] theorem BL9 : BL 9 = none := rfl
@[simp] theorem WR9 : WR 9 = false := rfl
@[simp] theorem OW9 : OW 9 = false := rfl
@[simp] theorem BL10 : BL 10 = none := rfl
@[simp] theorem WR10 : WR 10 = true := rfl
@[simp] theorem OW10 : OW 10 = true := rfl
@[simp] theorem BL11 : BL 11 = some (9, 0, 0) := rfl
@[simp] theorem WR11 : WR 11 = true := rfl
@[simp] theorem OW11 : OW 11 = true := rfl
@[simp] theorem BL12 : BL 12 = none := rfl
@[simp] theorem WR12 : WR 12 = false := rfl
@[simp] theorem OW12 : OW 12 = false := rfl
@[simp] theorem BL13 : BL 13 = none := rfl
@[simp] theorem WR13 : WR 13 = false := rfl
@[simp] theorem OW13 : OW 13 = false := rfl
@[simp] theorem BL14 : BL 14 = none := rfl
@[simp] theorem WR14 : WR 14 = false := rfl
@[simp] theorem OW14 : OW 14 = false := rfl
@[simp] theorem BL15 : BL 15 = none := rfl
@[simp] theorem WR15 : WR 15 = false := rfl
@[simp] theorem OW15 : OW 15 = false := rfl
@[simp] theorem BL16 : BL 16 = none := rfl
@[simp] theorem WR16 : WR 16 = false := rfl
@[simp] theorem OW16 : OW 16 = false := rfl
@[simp] theorem BL17 : BL 17 = none := rfl
@[simp] theorem WR17 : WR 17 = false := rfl
@[simp] theorem OW17 : OW 17 = false := rfl
@[simp] theorem BL18 : BL 18 = none := rfl
@[simp] theorem WR18 : WR 18 = false := rfl
@[simp] theorem OW18 : OW 18 = false := rfl
@[simp] theorem BL19 : BL 19 = none := rfl
@[simp] theorem WR19 : WR 19 = false := rfl
@[simp] theorem OW19 : OW 19 = false := rfl
@[simp] theorem BL20 : BL 20 = none := rfl
@[simp] theorem WR20 : WR 20 = false := rfl
@[simp] theorem OW20 : OW 20 = false := rfl
@[simp] theorem BL21 : BL 21 = none := rfl
@[simp] theorem WR21 : WR 21 = false := rfl
@[simp] theorem OW21 : OW 21 = false := rfl
@[simp] theorem BL22 : BL 22 = none := rfl
@[simp] theorem WR22 : WR 22 = false := rfl
@[simp] theorem OW22 : OW 22 = false := rfl
@[simp] theorem BL23 : BL 23 = none := rfl
@[simp] theorem WR23 : WR 23 = true := rfl
@[simp] theorem OW23 : OW 23 = true := rfl
@[simp] theorem BL24 : BL 24 = none := rfl
@[simp] theorem WR24 : WR 24 = false := rfl
@[simp] theorem OW24 : OW 24 = false := rfl
@[simp] theorem BL25 : BL 25 = none := rfl
@[simp] theorem WR25 : WR 25 = false := rfl
@[simp] theorem OW25 : OW 25 = false := rfl
@[simp] theorem BL26 : BL 26 = none := rfl
@[simp] theorem WR26 : WR 26 = false := rfl
@[simp] theorem OW26 : OW 26 = false := rfl
@[simp] theorem BL27 : BL 27 = none := rfl
@[simp] theorem WR27 : WR 27 = false := rfl
@[simp] theorem OW27 : OW 27 = false := rfl
@[simp] theorem BL28 : BL 28 = none := rfl
@[simp] theorem WR28 : WR 28 = false := rfl
@[simp] theorem OW28 : OW 28 = false := rfl
@[simp] theorem BL29 : BL 29 = none := rfl
@[simp] theorem WR29 : WR 29 = false := rfl
@[simp] theorem OW29 : OW 29 = false := rfl
@[simp] theorem BL30 : BL 30 = none := rfl
@[simp] theorem WR30 : WR 30 = false := rfl
@[simp] theorem OW30 : OW 30 = false := rfl
@[simp] theorem BL31 : BL 31 = none := rfl
@[simp] theorem WR31 : WR 31 = false := rfl
@[simp] theorem OW31 : OW 31 = false := rfl
@[simp] theorem BL32 : BL 32 = none := rfl
@[simp] theorem WR32 : WR 32 = false := rfl
@[simp] theorem OW32 : OW 32 = false := rfl
@[simp] theorem WRt3 : WR 1000003 = false := rfl
@[simp] theorem WRt4 : WR 1000004 = false := rfl
@[simp] theorem WRt22 : WR 1000022 = false := rfl
@[simp] theorem WRt24 : WR 1000024 = false := rfl
@[simp] theorem WRt26 : WR 1000026 = false := rfl
@[simp] theorem WRt29 : WR 1000029 = false := rfl
@[simp] theorem WRt44 : WR 1000044 = false := rfl
noncomputable def F_0 : FuncId → Option Func
  | 3 => some Try.f3
  | 4 => some Try.f4
  | 5 => some Try.f5
  | 6 => some Try.f6
  | 7 => some Try.f7
  | 8 => some Try.f8
  | 9 => some Try.f9
  | 10 => some Try.f10
  | 11 => some Try.f11
  | 12 => some Try.f12
  | 13 => some Try.f13
  | 14 => some Try.f14
  | 15 => some Try.f15
  | 16 => some Try.f16
  | 17 => some Try.f17
  | 18 => some Try.f18
  | 19 => some Try.f19
  | 20 => some Try.f20
  | 21 => some Try.f21
  | 22 => some Try.f22
  | 23 => some Try.f23
  | 24 => some Try.f24
  | 25 => some Try.f25
  | 26 => some Try.f26
  | f => none
noncomputable def F_1 : FuncId → Option Func
  | 27 => some Try.f27
  | 28 => some Try.f28
  | 29 => some Try.f29
  | 30 => some Try.f30
  | 31 => some Try.f31
  | 32 => some Try.f32
  | f => F_0 f
noncomputable def F : FuncId → Option Func := F_1
theorem F3 : F 3 = some Try.f3 := rfl
theorem chk3 : ∀ c, Try.f3.body = some c → chk WR (K 3) Try.f3.ntmps c = true := by intro c h; cases h; decide +kernel
theorem F4 : F 4 = some Try.f4 := rfl
theorem chk4 : ∀ c, Try.f4.body = some c → chk WR (K 4) Try.f4.ntmps c = true := by intro c h; cases h; decide +kernel
theorem F5 : F 5 = some Try.f5 := rfl
theorem chk5 : ∀ c, Try.f5.body = some c → chk WR (K 5) Try.f5.ntmps c = true := by intro c h; cases h; decide +kernel
theorem F6 : F 6 = some Try.f6 := rfl
theorem chk6 : ∀ c, Try.f6.body = some c → chk WR (K 6) Try.f6.ntmps c = true := by intro c h; cases h; decide +kernel
theorem F7 : F 7 = some Try.f7 := rfl
theorem chk7 : ∀ c, Try.f7.body = some c → chk WR (K 7) Try.f7.ntmps c = true := by intro c h; cases h; decide +kernel
theorem F8 : F 8 = some Try.f8 := rfl
theorem chk8 : ∀ c, Try.f8.body = some c → chk WR (K 8) Try.f8.ntmps c = true := by intro c h; cases h; decide +kernel
theorem F9 : F 9 = some Try.f9 := rfl
theorem chk9 : ∀ c, Try.f9.body = some c → chk WR (K 9) Try.f9.ntmps c = true := by intro c h; cases h; decide +kernel
theorem F10 : F 10 = some Try.f10 := rfl
theorem chk10 : ∀ c, Try.f10.body = some c → chk WR (K 10) Try.f10.ntmps c = true := by intro c h; cases h; decide +kernel
theorem F11 : F 11 = some Try.f11 := rfl
theorem chk11 : ∀ c, Try.f11.body = some c → chk WR (K 11) Try.f11.ntmps c = true := by intro c h; cases h; decide +kernel
theorem F12 : F 12 = some Try.f12 := rfl
theorem chk12 : ∀ c, Try.f12.body = some c → chk WR (K 12) Try.f12.ntmps c = true := by intro c h; cases h; decide +kernel
theorem F13 : F 13 = some Try.f13 := rfl
theorem chk13 : ∀ c, Try.f13.body = some c → chk WR (K 13) Try.f13.ntmps c = true := by intro c h; cases h; decide +kernel
theorem F14 : F 14 = some Try.f14 := rfl
theorem chk14 : ∀ c, Try.f14.body = some c → chk WR (K 14) Try.f14.ntmps c = true := by intro c h; cases h; decide +kernel
theorem F15 : F 15 = some Try.f15 := rfl
theorem chk15 : ∀ c, Try.f15.body = some c → chk WR (K 15) Try.f15.ntmps c = true := by intro c h; cases h; decide +kernel
theorem F16 : F 16 = some Try.f16 := rfl
theorem chk16 : ∀ c, Try.f16.body = some c → chk WR (K 16) Try.f16.ntmps c = true := by intro c h; cases h; decide +kernel
theorem F17 : F 17 = some Try.f17 := rfl
theorem chk17 : ∀ c, Try.f17.body = some c → chk WR (K 17) Try.f17.ntmps c = true := by intro c h; cases h; decide +kernel
theorem F18 : F 18 = some Try.f18 := rfl
theorem chk18 : ∀ c, Try.f18.body = some c → chk WR (K 18) Try.f18.ntmps c = true := by intro c h; cases h; decide +kernel
theorem F19 : F 19 = some Try.f19 := rfl
theorem chk19 : ∀ c, Try.f19.body = some c → chk WR (K 19) Try.f19.ntmps c = true := by intro c h; cases h; decide +kernel
theorem F20 : F 20 = some Try.f20 := rfl
theorem chk20 : ∀ c, Try.f20.body = some c → chk WR (K 20) Try.f20.ntmps c = true := by intro c h; cases h; decide +kernel
theorem F21 : F 21 = some Try.f21 := rfl
theorem chk21 : ∀ c, Try.f21.body = some c → chk WR (K 21) Try.f21.ntmps c = true := by intro c h; cases h; decide +kernel
theorem F22 : F 22 = some Try.f22 := rfl
theorem chk22 : ∀ c, Try.f22.body = some c → chk WR (K 22) Try.f22.ntmps c = true := by intro c h; cases h; decide +kernel
theorem F23 : F 23 = some Try.f23 := rfl
theorem chk23 : ∀ c, Try.f23.body = some c → chk WR (K 23) Try.f23.ntmps c = true := by intro c h; cases h; decide +kernel
theorem F24 : F 24 = some Try.f24 := rfl
theorem chk24 : ∀ c, Try.f24.body = some c → chk WR (K 24) Try.f24.ntmps c = true := by intro c h; cases h; decide +kernel
theorem F25 : F 25 = some Try.f25 := rfl
theorem chk25 : ∀ c, Try.f25.body = some c → chk WR (K 25) Try.f25.ntmps c = true := by intro c h; cases h; decide +kernel
theorem F26 : F 26 = some Try.f26 := rfl
theorem chk26 : ∀ c, Try.f26.body = some c → chk WR (K 26) Try.f26.ntmps c = true := by intro c h; cases h; decide +kernel
theorem F27 : F 27 = some Try.f27 := rfl
theorem chk27 : ∀ c, Try.f27.body = some c → chk WR (K 27) Try.f27.ntmps c = true := by intro c h; cases h; decide +kernel
theorem F28 : F 28 = some Try.f28 := rfl
theorem chk28 : ∀ c, Try.f28.body = some c → chk WR (K 28) Try.f28.ntmps c = true := by intro c h; cases h; decide +kernel
theorem F29 : F 29 = some Try.f29 := rfl
theorem chk29 : ∀ c, Try.f29.body = some c → chk WR (K 29) Try.f29.ntmps c = true := by intro c h; cases h; decide +kernel
theorem F30 : F 30 = some Try.f30 := rfl
theorem chk30 : ∀ c, Try.f30.body = some c → chk WR (K 30) Try.f30.ntmps c = true := by intro c h; cases h; decide +kernel
theorem F31 : F 31 = some Try.f31 := rfl
theorem chk31 : ∀ c, Try.f31.body = some c → chk WR (K 31) Try.f31.ntmps c = true := by intro c h; cases h; decide +kernel
theorem F32 : F 32 = some Try.f32 := rfl
theorem chk32 : ∀ c, Try.f32.body = some c → chk WR (K 32) Try.f32.ntmps c = true := by intro c h; cases h; decide +kernel
theorem ent {f : FuncId} {fn : Func} (h : Try.prog.funcs[f]? = some fn) (hb : fn.body.isSome = true) (hn : (fn.name == "runtime.NumGoroutine") = false) : Enters Try.prog f := enters_mk h hb hn
theorem okF_0 : ∀ f fn, F_0 f = some fn → Try.prog.funcs[f]? = some fn ∧ Enters Try.prog f ∧ ∀ c, fn.body = some c → chk WR (K f) fn.ntmps c = true := by
  intro f fn h
  unfold F_0 at h
  split at h
  · cases h; exact ⟨Try.func3, ent Try.func3 rfl rfl, chk3⟩
  · cases h; exact ⟨Try.func4, ent Try.func4 rfl rfl, chk4⟩
  · cases h; exact ⟨Try.func5, ent Try.func5 rfl rfl, chk5⟩
  · cases h; exact ⟨Try.func6, ent Try.func6 rfl rfl, chk6⟩
  · cases h; exact ⟨Try.func7, ent Try.func7 rfl rfl, chk7⟩
  · cases h; exact ⟨Try.func8, ent Try.func8 rfl rfl, chk8⟩
  · cases h; exact ⟨Try.func9, ent Try.func9 rfl rfl, chk9⟩
  · cases h; exact ⟨Try.func10, ent Try.func10 rfl rfl, chk10⟩
  · cases h; exact ⟨Try.func11, ent Try.func11 rfl rfl, chk11⟩
  · cases h; exact ⟨Try.func12, ent Try.func12 rfl rfl, chk12⟩
  · cases h; exact ⟨Try.func13, ent Try.func13 rfl rfl, chk13⟩
  · cases h; exact ⟨Try.func14, ent Try.func14 rfl rfl, chk14⟩
  · cases h; exact ⟨Try.func15, ent Try.func15 rfl rfl, chk15⟩
  · cases h; exact ⟨Try.func16, ent Try.func16 rfl rfl, chk16⟩
  · cases h; exact ⟨Try.func17, ent Try.func17 rfl rfl, chk17⟩
  · cases h; exact ⟨Try.func18, ent Try.func18 rfl rfl, chk18⟩
  · cases h; exact ⟨Try.func19, ent Try.func19 rfl rfl, chk19⟩
  · cases h; exact ⟨Try.func20, ent Try.func20 rfl rfl, chk20⟩
  · cases h; exact ⟨Try.func21, ent Try.func21 rfl rfl, chk21⟩
  · cases h; exact ⟨Try.func22, ent Try.func22 rfl rfl, chk22⟩
  · cases h; exact ⟨Try.func23, ent Try.func23 rfl rfl, chk23⟩
  · cases h; exact ⟨Try.func24, ent Try.func24 rfl rfl, chk24⟩
  · cases h; exact ⟨Try.func25, ent Try.func25 rfl rfl, chk25⟩
  · cases h; exact ⟨Try.func26, ent Try.func26 rfl rfl, chk26⟩
  · cases h
theorem okF_1 : ∀ f fn, F_1 f = some fn → Try.prog.funcs[f]? = some fn ∧ Enters Try.prog f ∧ ∀ c, fn.body = some c → chk WR (K f) fn.ntmps c = true := by
  intro f fn h
  unfold F_1 at h
  split at h
  · cases h; exact ⟨Try.func27, ent Try.func27 rfl rfl, chk27⟩
  · cases h; exact ⟨Try.func28, ent Try.func28 rfl rfl, chk28⟩
  · cases h; exact ⟨Try.func29, ent Try.func29 rfl rfl, chk29⟩
  · cases h; exact ⟨Try.func30, ent Try.func30 rfl rfl, chk30⟩
  · cases h; exact ⟨Try.func31, ent Try.func31 rfl rfl, chk31⟩
  · cases h; exact ⟨Try.func32, ent Try.func32 rfl rfl, chk32⟩
  · exact okF_0 _ _ h
end Go.Proofs.Ytemkckldfmpplaa.Eng
