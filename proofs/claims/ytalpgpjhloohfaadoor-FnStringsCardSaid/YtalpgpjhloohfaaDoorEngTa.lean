/- The types, the functions and the loops' live slots that the laws reach, first part. No conditions. -/
import Derived.Test.YtalpgpjhloohfaaDoorEngS
import Derived.Test.YtalpgpjhloohfaaDoorProg
import Derived.KernelRfl
import Derived.Test.YtalpgpjhloohfaaDoorShelf
namespace Go.Proofs.YtalpgpjhloohfaaDoor.Eng
open Go Go.Proofs
set_option maxRecDepth 100000
def T : Tab
  | 3 => some ⟨.int .i64, 1, 8, [.int .i64 0], true⟩
  | 4 => some ⟨.bool, 1, 1, [.bool false], true⟩
  | 5 => some ⟨.int .u8, 1, 1, [.int .u8 0], true⟩
  | 9 => some ⟨.str, 1, 16, [.string ByteArray.empty], true⟩
  | 22 => some ⟨(.slice 3), 1, 24, [.slice none 0 0], false⟩
  | 32 => some ⟨(.slice 5), 1, 24, [.slice none 0 0], false⟩
  | 57 => some ⟨.ifc, 1, 16, [.nilIface], false⟩
  | 63 => some ⟨(.ptr 66), 1, 8, [.pointer none], false⟩
  | 64 => some ⟨.int .u64, 1, 8, [.int .u64 0], true⟩
  | 66 => some ⟨(.struct [(0, 1, false), (1, 1, false), (2, 1, false)]), 3, 40, [.slice none 0 0, .int .i64 0, .int .u64 0], false⟩
  | 72 => some ⟨(.slice 9), 1, 24, [.slice none 0 0], false⟩
  | _ => none
theorem T3 : T 3 = some ⟨.int .i64, 1, 8, [.int .i64 0], true⟩ := rfl
theorem ok3 : TiOk Tryd.prog 3 ⟨.int .i64, 1, 8, [.int .i64 0], true⟩ := ⟨(by kernel_rfl : Tryd.prog.underlying 3 = _), (TiOk.of_info (z := (.int .i64 0)) (by kernel_rfl) rfl), rfl, by decide, (fun h => absurd h (by decide))⟩
theorem T4 : T 4 = some ⟨.bool, 1, 1, [.bool false], true⟩ := rfl
theorem ok4 : TiOk Tryd.prog 4 ⟨.bool, 1, 1, [.bool false], true⟩ := ⟨(by kernel_rfl : Tryd.prog.underlying 4 = _), (TiOk.of_info (z := (.bool false)) (by kernel_rfl) rfl), rfl, by decide, (fun h => absurd h (by decide))⟩
theorem T5 : T 5 = some ⟨.int .u8, 1, 1, [.int .u8 0], true⟩ := rfl
theorem ok5 : TiOk Tryd.prog 5 ⟨.int .u8, 1, 1, [.int .u8 0], true⟩ := ⟨(by kernel_rfl : Tryd.prog.underlying 5 = _), (TiOk.of_info (z := (.int .u8 0)) (by kernel_rfl) rfl), rfl, by decide, (fun h => absurd h (by decide))⟩
theorem T9 : T 9 = some ⟨.str, 1, 16, [.string ByteArray.empty], true⟩ := rfl
theorem ok9 : TiOk Tryd.prog 9 ⟨.str, 1, 16, [.string ByteArray.empty], true⟩ := ⟨(by kernel_rfl : Tryd.prog.underlying 9 = _), (TiOk.of_info (z := (.string ByteArray.empty)) (by kernel_rfl) rfl), rfl, by decide, (fun h => absurd h (by decide))⟩
theorem T22 : T 22 = some ⟨(.slice 3), 1, 24, [.slice none 0 0], false⟩ := rfl
theorem ok22 : TiOk Tryd.prog 22 ⟨(.slice 3), 1, 24, [.slice none 0 0], false⟩ := ⟨(by kernel_rfl : Tryd.prog.underlying 22 = _), (TiOk.of_info (z := (.slice none 0 0)) (by kernel_rfl) rfl), rfl, by decide, (fun h => absurd h (by decide))⟩
theorem T32 : T 32 = some ⟨(.slice 5), 1, 24, [.slice none 0 0], false⟩ := rfl
theorem ok32 : TiOk Tryd.prog 32 ⟨(.slice 5), 1, 24, [.slice none 0 0], false⟩ := ⟨(by kernel_rfl : Tryd.prog.underlying 32 = _), (TiOk.of_info (z := (.slice none 0 0)) (by kernel_rfl) rfl), rfl, by decide, (fun h => absurd h (by decide))⟩
theorem T57 : T 57 = some ⟨.ifc, 1, 16, [.nilIface], false⟩ := rfl
theorem ok57 : TiOk Tryd.prog 57 ⟨.ifc, 1, 16, [.nilIface], false⟩ := ⟨⟨_, Tryd.underlying57⟩, (TiOk.of_info (z := (.nilIface)) (by kernel_rfl) rfl), rfl, by decide, (fun h => absurd h (by decide))⟩
theorem T63 : T 63 = some ⟨(.ptr 66), 1, 8, [.pointer none], false⟩ := rfl
theorem ok63 : TiOk Tryd.prog 63 ⟨(.ptr 66), 1, 8, [.pointer none], false⟩ := ⟨(by kernel_rfl : Tryd.prog.underlying 63 = _), (TiOk.of_info (z := (.pointer none)) (by kernel_rfl) rfl), rfl, by decide, (fun h => absurd h (by decide))⟩
theorem T64 : T 64 = some ⟨.int .u64, 1, 8, [.int .u64 0], true⟩ := rfl
theorem ok64 : TiOk Tryd.prog 64 ⟨.int .u64, 1, 8, [.int .u64 0], true⟩ := ⟨(by kernel_rfl : Tryd.prog.underlying 64 = _), (TiOk.of_info (z := (.int .u64 0)) (by kernel_rfl) rfl), rfl, by decide, (fun h => absurd h (by decide))⟩
theorem T66 : T 66 = some ⟨(.struct [(0, 1, false), (1, 1, false), (2, 1, false)]), 3, 40, [.slice none 0 0, .int .i64 0, .int .u64 0], false⟩ := rfl
theorem ok66 : TiOk Tryd.prog 66 ⟨(.struct [(0, 1, false), (1, 1, false), (2, 1, false)]), 3, 40, [.slice none 0 0, .int .i64 0, .int .u64 0], false⟩ := ⟨TiOk.of_struct Tryd.underlying66 (by kernel_rfl), (TiOk.of_info (z := (.agg #[.slice none 0 0, .int .i64 0, .int .u64 0])) (by kernel_rfl) rfl), rfl, by decide, (fun h => absurd h (by decide))⟩
theorem T72 : T 72 = some ⟨(.slice 9), 1, 24, [.slice none 0 0], false⟩ := rfl
theorem ok72 : TiOk Tryd.prog 72 ⟨(.slice 9), 1, 24, [.slice none 0 0], false⟩ := ⟨(by kernel_rfl : Tryd.prog.underlying 72 = _), (TiOk.of_info (z := (.slice none 0 0)) (by kernel_rfl) rfl), rfl, by decide, (fun h => absurd h (by decide))⟩
theorem tabOk : TabOk Tryd.prog T := by
  intro t i h
  unfold T at h
  split at h
  · cases h; exact ok3
  · cases h; exact ok4
  · cases h; exact ok5
  · cases h; exact ok9
  · cases h; exact ok22
  · cases h; exact ok32
  · cases h; exact ok57
  · cases h; exact ok63
  · cases h; exact ok64
  · cases h; exact ok66
  · cases h; exact ok72
  · cases h
set_option maxHeartbeats 1000000
def WR (f : FuncId) : Bool := f == 44 || f == 45 || f == 49 || f == 50 || f == 53 || f == 81 || f == 1000032
def OW (f : FuncId) : Bool := f == 999999
def K : FuncId → Nat → List Nat
  | 52, 0 => [0, 4, 5, 6]
  | 55, 0 => [0, 3, 4]
  | 56, 0 => [0, 1, 5]
  | 85, 0 => [0, 3, 4]
  | _, _ => []
@[simp] theorem K52_0 : K 52 0 = [0, 4, 5, 6] := rfl
@[simp] theorem K55_0 : K 55 0 = [0, 3, 4] := rfl
@[simp] theorem K56_0 : K 56 0 = [0, 1, 5] := rfl
@[simp] theorem K85_0 : K 85 0 = [0, 3, 4] := rfl
@[simp] theorem K4_1022 : K 4 1022 = [] := rfl
@[simp] theorem K48_1005 : K 48 1005 = [] := rfl
@[simp] theorem K81_1002 : K 81 1002 = [] := rfl
@[simp] theorem K81_1003 : K 81 1003 = [] := rfl
@[simp] theorem K81_1006 : K 81 1006 = [] := rfl
@[simp] theorem K86_1003 : K 86 1003 = [] := rfl
@[simp] theorem WR4 : WR 4 = false := rfl
@[simp] theorem OW4 : OW 4 = false := rfl
@[simp] theorem WR12 : WR 12 = false := rfl
@[simp] theorem OW12 : OW 12 = false := rfl
@[simp] theorem WR13 : WR 13 = false := rfl
@[simp] theorem OW13 : OW 13 = false := rfl
@[simp] theorem WR14 : WR 14 = false := rfl
@[simp] theorem OW14 : OW 14 = false := rfl
@[simp] theorem WR15 : WR 15 = false := rfl
@[simp] theorem OW15 : OW 15 = false := rfl
@[simp] theorem WR16 : WR 16 = false := rfl
@[simp] theorem OW16 : OW 16 = false := rfl
@[simp] theorem WR17 : WR 17 = false := rfl
@[simp] theorem OW17 : OW 17 = false := rfl
@[simp] theorem WR18 : WR 18 = false := rfl
@[simp] theorem OW18 : OW 18 = false := rfl
@[simp] theorem WR19 : WR 19 = false := rfl
@[simp] theorem OW19 : OW 19 = false := rfl
@[simp] theorem WR20 : WR 20 = false := rfl
@[simp] theorem OW20 : OW 20 = false := rfl
@[simp] theorem WR21 : WR 21 = false := rfl
@[simp] theorem OW21 : OW 21 = false := rfl
@[simp] theorem WR22 : WR 22 = false := rfl
@[simp] theorem OW22 : OW 22 = false := rfl
@[simp] theorem WR23 : WR 23 = false := rfl
@[simp] theorem OW23 : OW 23 = false := rfl
@[simp] theorem WR44 : WR 44 = true := rfl
@[simp] theorem OW44 : OW 44 = false := rfl
@[simp] theorem WR45 : WR 45 = true := rfl
@[simp] theorem OW45 : OW 45 = false := rfl
@[simp] theorem WR46 : WR 46 = false := rfl
@[simp] theorem OW46 : OW 46 = false := rfl
@[simp] theorem WR47 : WR 47 = false := rfl
@[simp] theorem OW47 : OW 47 = false := rfl
@[simp] theorem WR48 : WR 48 = false := rfl
@[simp] theorem OW48 : OW 48 = false := rfl
@[simp] theorem WR49 : WR 49 = true := rfl
@[simp] theorem OW49 : OW 49 = false := rfl
@[simp] theorem WR50 : WR 50 = true := rfl
@[simp] theorem OW50 : OW 50 = false := rfl
@[simp] theorem WR52 : WR 52 = false := rfl
@[simp] theorem OW52 : OW 52 = false := rfl
@[simp] theorem WR53 : WR 53 = true := rfl
@[simp] theorem OW53 : OW 53 = false := rfl
@[simp] theorem WR54 : WR 54 = false := rfl
@[simp] theorem OW54 : OW 54 = false := rfl
@[simp] theorem WR55 : WR 55 = false := rfl
@[simp] theorem OW55 : OW 55 = false := rfl
@[simp] theorem WR56 : WR 56 = false := rfl
@[simp] theorem OW56 : OW 56 = false := rfl
@[simp] theorem WR57 : WR 57 = false := rfl
@[simp] theorem OW57 : OW 57 = false := rfl
@[simp] theorem WR58 : WR 58 = false := rfl
@[simp] theorem OW58 : OW 58 = false := rfl
@[simp] theorem WR81 : WR 81 = true := rfl
@[simp] theorem OW81 : OW 81 = false := rfl
@[simp] theorem WR85 : WR 85 = false := rfl
@[simp] theorem OW85 : OW 85 = false := rfl
@[simp] theorem WR86 : WR 86 = false := rfl
@[simp] theorem OW86 : OW 86 = false := rfl
@[simp] theorem WR41 : WR 41 = false := rfl
@[simp] theorem OW41 : OW 41 = false := rfl
@[simp] theorem WR51 : WR 51 = false := rfl
@[simp] theorem OW51 : OW 51 = false := rfl
@[simp] theorem WR84 : WR 84 = false := rfl
@[simp] theorem OW84 : OW 84 = false := rfl
@[simp] theorem WR102 : WR 102 = false := rfl
@[simp] theorem OW102 : OW 102 = false := rfl
@[simp] theorem WRt3 : WR 1000003 = false := rfl
@[simp] theorem WRt4 : WR 1000004 = false := rfl
@[simp] theorem WRt5 : WR 1000005 = false := rfl
@[simp] theorem WRt9 : WR 1000009 = false := rfl
@[simp] theorem WRt22 : WR 1000022 = false := rfl
@[simp] theorem WRt32 : WR 1000032 = true := rfl
@[simp] theorem WRt57 : WR 1000057 = false := rfl
@[simp] theorem WRt63 : WR 1000063 = false := rfl
@[simp] theorem WRt64 : WR 1000064 = false := rfl
@[simp] theorem WRt66 : WR 1000066 = false := rfl
@[simp] theorem WRt72 : WR 1000072 = false := rfl
noncomputable def F_0 : FuncId → Option Func
  | 4 => some Tryd.f4
  | 12 => some Tryd.f12
  | 13 => some Tryd.f13
  | 14 => some Tryd.f14
  | 15 => some Tryd.f15
  | 16 => some Tryd.f16
  | 17 => some Tryd.f17
  | 18 => some Tryd.f18
  | 19 => some Tryd.f19
  | 20 => some Tryd.f20
  | 21 => some Tryd.f21
  | 22 => some Tryd.f22
  | 23 => some Tryd.f23
  | 44 => some Tryd.f44
  | 45 => some Tryd.f45
  | 46 => some Tryd.f46
  | 47 => some Tryd.f47
  | 48 => some Tryd.f48
  | 49 => some Tryd.f49
  | 50 => some Tryd.f50
  | 52 => some Tryd.f52
  | 53 => some Tryd.f53
  | 54 => some Tryd.f54
  | 55 => some Tryd.f55
  | f => none
noncomputable def F_1 : FuncId → Option Func
  | 56 => some Tryd.f56
  | 57 => some Tryd.f57
  | 58 => some Tryd.f58
  | 81 => some Tryd.f81
  | 85 => some Tryd.f85
  | 86 => some Tryd.f86
  | f => F_0 f
noncomputable def F : FuncId → Option Func := F_1
theorem F4 : F 4 = some Tryd.f4 := rfl
theorem chk4 : ∀ c, Tryd.f4.body = some c → chk WR (K 4) Tryd.f4.ntmps c = true := by intro c h; cases h; decide +kernel
theorem F12 : F 12 = some Tryd.f12 := rfl
theorem chk12 : ∀ c, Tryd.f12.body = some c → chk WR (K 12) Tryd.f12.ntmps c = true := by intro c h; cases h; decide +kernel
theorem F13 : F 13 = some Tryd.f13 := rfl
theorem chk13 : ∀ c, Tryd.f13.body = some c → chk WR (K 13) Tryd.f13.ntmps c = true := by intro c h; cases h; decide +kernel
theorem F14 : F 14 = some Tryd.f14 := rfl
theorem chk14 : ∀ c, Tryd.f14.body = some c → chk WR (K 14) Tryd.f14.ntmps c = true := by intro c h; cases h; decide +kernel
theorem F15 : F 15 = some Tryd.f15 := rfl
theorem chk15 : ∀ c, Tryd.f15.body = some c → chk WR (K 15) Tryd.f15.ntmps c = true := by intro c h; cases h; decide +kernel
theorem F16 : F 16 = some Tryd.f16 := rfl
theorem chk16 : ∀ c, Tryd.f16.body = some c → chk WR (K 16) Tryd.f16.ntmps c = true := by intro c h; cases h; decide +kernel
theorem F17 : F 17 = some Tryd.f17 := rfl
theorem chk17 : ∀ c, Tryd.f17.body = some c → chk WR (K 17) Tryd.f17.ntmps c = true := by intro c h; cases h; decide +kernel
theorem F18 : F 18 = some Tryd.f18 := rfl
theorem chk18 : ∀ c, Tryd.f18.body = some c → chk WR (K 18) Tryd.f18.ntmps c = true := by intro c h; cases h; decide +kernel
theorem F19 : F 19 = some Tryd.f19 := rfl
theorem chk19 : ∀ c, Tryd.f19.body = some c → chk WR (K 19) Tryd.f19.ntmps c = true := by intro c h; cases h; decide +kernel
theorem F20 : F 20 = some Tryd.f20 := rfl
theorem chk20 : ∀ c, Tryd.f20.body = some c → chk WR (K 20) Tryd.f20.ntmps c = true := by intro c h; cases h; decide +kernel
theorem F21 : F 21 = some Tryd.f21 := rfl
theorem chk21 : ∀ c, Tryd.f21.body = some c → chk WR (K 21) Tryd.f21.ntmps c = true := by intro c h; cases h; decide +kernel
theorem F22 : F 22 = some Tryd.f22 := rfl
theorem chk22 : ∀ c, Tryd.f22.body = some c → chk WR (K 22) Tryd.f22.ntmps c = true := by intro c h; cases h; decide +kernel
theorem F23 : F 23 = some Tryd.f23 := rfl
theorem chk23 : ∀ c, Tryd.f23.body = some c → chk WR (K 23) Tryd.f23.ntmps c = true := by intro c h; cases h; decide +kernel
theorem F44 : F 44 = some Tryd.f44 := rfl
theorem chk44 : ∀ c, Tryd.f44.body = some c → chk WR (K 44) Tryd.f44.ntmps c = true := by intro c h; cases h; decide +kernel
theorem F45 : F 45 = some Tryd.f45 := rfl
theorem chk45 : ∀ c, Tryd.f45.body = some c → chk WR (K 45) Tryd.f45.ntmps c = true := by intro c h; cases h; decide +kernel
theorem F46 : F 46 = some Tryd.f46 := rfl
theorem chk46 : ∀ c, Tryd.f46.body = some c → chk WR (K 46) Tryd.f46.ntmps c = true := by intro c h; cases h; decide +kernel
theorem F47 : F 47 = some Tryd.f47 := rfl
theorem chk47 : ∀ c, Tryd.f47.body = some c → chk WR (K 47) Tryd.f47.ntmps c = true := by intro c h; cases h; decide +kernel
theorem F48 : F 48 = some Tryd.f48 := rfl
theorem chk48 : ∀ c, Tryd.f48.body = some c → chk WR (K 48) Tryd.f48.ntmps c = true := by intro c h; cases h; decide +kernel
theorem F49 : F 49 = some Tryd.f49 := rfl
theorem chk49 : ∀ c, Tryd.f49.body = some c → chk WR (K 49) Tryd.f49.ntmps c = true := by intro c h; cases h; decide +kernel
theorem F50 : F 50 = some Tryd.f50 := rfl
theorem chk50 : ∀ c, Tryd.f50.body = some c → chk WR (K 50) Tryd.f50.ntmps c = true := by intro c h; cases h; decide +kernel
theorem F52 : F 52 = some Tryd.f52 := rfl
theorem chk52 : ∀ c, Tryd.f52.body = some c → chk WR (K 52) Tryd.f52.ntmps c = true := by intro c h; cases h; decide +kernel
theorem F53 : F 53 = some Tryd.f53 := rfl
theorem chk53 : ∀ c, Tryd.f53.body = some c → chk WR (K 53) Tryd.f53.ntmps c = true := by intro c h; cases h; decide +kernel
theorem F54 : F 54 = some Tryd.f54 := rfl
theorem chk54 : ∀ c, Tryd.f54.body = some c → chk WR (K 54) Tryd.f54.ntmps c = true := by intro c h; cases h; decide +kernel
theorem F55 : F 55 = some Tryd.f55 := rfl
theorem chk55 : ∀ c, Tryd.f55.body = some c → chk WR (K 55) Tryd.f55.ntmps c = true := by intro c h; cases h; decide +kernel
theorem F56 : F 56 = some Tryd.f56 := rfl
theorem chk56 : ∀ c, Tryd.f56.body = some c → chk WR (K 56) Tryd.f56.ntmps c = true := by intro c h; cases h; decide +kernel
theorem F57 : F 57 = some Tryd.f57 := rfl
theorem chk57 : ∀ c, Tryd.f57.body = some c → chk WR (K 57) Tryd.f57.ntmps c = true := by intro c h; cases h; decide +kernel
theorem F58 : F 58 = some Tryd.f58 := rfl
theorem chk58 : ∀ c, Tryd.f58.body = some c → chk WR (K 58) Tryd.f58.ntmps c = true := by intro c h; cases h; decide +kernel
theorem F81 : F 81 = some Tryd.f81 := rfl
theorem chk81 : ∀ c, Tryd.f81.body = some c → chk WR (K 81) Tryd.f81.ntmps c = true := by intro c h; cases h; decide +kernel
theorem F85 : F 85 = some Tryd.f85 := rfl
theorem chk85 : ∀ c, Tryd.f85.body = some c → chk WR (K 85) Tryd.f85.ntmps c = true := by intro c h; cases h; decide +kernel
theorem F86 : F 86 = some Tryd.f86 := rfl
theorem chk86 : ∀ c, Tryd.f86.body = some c → chk WR (K 86) Tryd.f86.ntmps c = true := by intro c h; cases h; decide +kernel
theorem ent {f : FuncId} {fn : Func} (h : Tryd.prog.funcs[f]? = some fn) (hb : fn.body.isSome = true) (hn : (fn.name == "runtime.NumGoroutine") = false) : Enters Tryd.prog f := enters_mk h hb hn
theorem okF_0 : ∀ f fn, F_0 f = some fn → Tryd.prog.funcs[f]? = some fn ∧ Enters Tryd.prog f ∧ ∀ c, fn.body = some c → chk WR (K f) fn.ntmps c = true := by
  intro f fn h
  unfold F_0 at h
  split at h
  · cases h; exact ⟨Tryd.func4, ent Tryd.func4 rfl rfl, chk4⟩
  · cases h; exact ⟨Tryd.func12, ent Tryd.func12 rfl rfl, chk12⟩
  · cases h; exact ⟨Tryd.func13, ent Tryd.func13 rfl rfl, chk13⟩
  · cases h; exact ⟨Tryd.func14, ent Tryd.func14 rfl rfl, chk14⟩
  · cases h; exact ⟨Tryd.func15, ent Tryd.func15 rfl rfl, chk15⟩
  · cases h; exact ⟨Tryd.func16, ent Tryd.func16 rfl rfl, chk16⟩
  · cases h; exact ⟨Tryd.func17, ent Tryd.func17 rfl rfl, chk17⟩
  · cases h; exact ⟨Tryd.func18, ent Tryd.func18 rfl rfl, chk18⟩
  · cases h; exact ⟨Tryd.func19, ent Tryd.func19 rfl rfl, chk19⟩
  · cases h; exact ⟨Tryd.func20, ent Tryd.func20 rfl rfl, chk20⟩
  · cases h; exact ⟨Tryd.func21, ent Tryd.func21 rfl rfl, chk21⟩
  · cases h; exact ⟨Tryd.func22, ent Tryd.func22 rfl rfl, chk22⟩
  · cases h; exact ⟨Tryd.func23, ent Tryd.func23 rfl rfl, chk23⟩
  · cases h; exact ⟨Tryd.func44, ent Tryd.func44 rfl rfl, chk44⟩
  · cases h; exact ⟨Tryd.func45, ent Tryd.func45 rfl rfl, chk45⟩
  · cases h; exact ⟨Tryd.func46, ent Tryd.func46 rfl rfl, chk46⟩
  · cases h; exact ⟨Tryd.func47, ent Tryd.func47 rfl rfl, chk47⟩
  · cases h; exact ⟨Tryd.func48, ent Tryd.func48 rfl rfl, chk48⟩
  · cases h; exact ⟨Tryd.func49, ent Tryd.func49 rfl rfl, chk49⟩
  · cases h; exact ⟨Tryd.func50, ent Tryd.func50 rfl rfl, chk50⟩
  · cases h; exact ⟨Tryd.func52, ent Tryd.func52 rfl rfl, chk52⟩
  · cases h; exact ⟨Tryd.func53, ent Tryd.func53 rfl rfl, chk53⟩
  · cases h; exact ⟨Tryd.func54, ent Tryd.func54 rfl rfl, chk54⟩
  · cases h; exact ⟨Tryd.func55, ent Tryd.func55 rfl rfl, chk55⟩
  · cases h
theorem okF_1 : ∀ f fn, F_1 f = some fn → Tryd.prog.funcs[f]? = some fn ∧ Enters Tryd.prog f ∧ ∀ c, fn.body = some c → chk WR (K f) fn.ntmps c = true := by
  intro f fn h
  unfold F_1 at h
  split at h
  · cases h; exact ⟨Tryd.func56, ent Tryd.func56 rfl rfl, chk56⟩
  · cases h; exact ⟨Tryd.func57, ent Tryd.func57 rfl rfl, chk57⟩
  · cases h; exact ⟨Tryd.func58, ent Tryd.func58 rfl rfl, chk58⟩
  · cases h; exact ⟨Tryd.func81, ent Tryd.func81 rfl rfl, chk81⟩
  · cases h; exact ⟨Tryd.func85, ent Tryd.func85 rfl rfl, chk85⟩
  · cases h; exact ⟨Tryd.func86, ent Tryd.func86 rfl rfl, chk86⟩
  · exact okF_0 _ _ h
end Go.Proofs.YtalpgpjhloohfaaDoor.Eng
