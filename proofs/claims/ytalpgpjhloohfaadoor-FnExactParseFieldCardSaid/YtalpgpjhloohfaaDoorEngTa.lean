/- The types, the functions and the loops' live slots that the laws reach, first part. No conditions. -/
import Derived.Test.YtalpgpjhloohfaaDoorEngS
import Derived.Test.YtalpgpjhloohfaaDoorProg
import Derived.KernelRfl
import Derived.Test.YtalpgpjhloohfaaDoorShelf
namespace Go.Proofs.YtalpgpjhloohfaaDoor.Eng
open Go Go.Proofs
set_option maxRecDepth 100000
def T : Tab
  | 3 => some ⟨.int .i64, 1, 8, [.int .i64 0], true⟩
  | 4 => some ⟨.bool, 1, 1, [.bool false], true⟩
  | 5 => some ⟨.int .u8, 1, 1, [.int .u8 0], true⟩
  | 9 => some ⟨.str, 1, 16, [.string ByteArray.empty], true⟩
  | 22 => some ⟨(.slice 3), 1, 24, [.slice none 0 0], false⟩
  | 28 => some ⟨(.struct [(0, 1, false), (1, 1, false), (2, 1, false)]), 3, 40, [.int .i64 0, .int .i64 0, .slice none 0 0], false⟩
  | 57 => some ⟨.ifc, 1, 16, [.nilIface], false⟩
  | 70 => some ⟨.oth, 1, 8, [.nilFunc], false⟩
  | 72 => some ⟨(.slice 9), 1, 24, [.slice none 0 0], false⟩
  | _ => none
theorem T3 : T 3 = some ⟨.int .i64, 1, 8, [.int .i64 0], true⟩ := rfl
theorem ok3 : TiOk Tryd.prog 3 ⟨.int .i64, 1, 8, [.int .i64 0], true⟩ := ⟨(by kernel_rfl : Tryd.prog.underlying 3 = _), (TiOk.of_info (z := (.int .i64 0)) (by kernel_rfl) rfl), rfl, by decide, (fun h => absurd h (by decide))⟩
theorem T4 : T 4 = some ⟨.bool, 1, 1, [.bool false], true⟩ := rfl
theorem ok4 : TiOk Tryd.prog 4 ⟨.bool, 1, 1, [.bool false], true⟩ := ⟨(by kernel_rfl : Tryd.prog.underlying 4 = _), (TiOk.of_info (z := (.bool false)) (by kernel_rfl) rfl), rfl, by decide, (fun h => absurd h (by decide))⟩
theorem T5 : T 5 = some ⟨.int .u8, 1, 1, [.int .u8 0], true⟩ := rfl
theorem ok5 : TiOk Tryd.prog 5 ⟨.int .u8, 1, 1, [.int .u8 0], true⟩ := ⟨(by kernel_rfl : Tryd.prog.underlying 5 = _), (TiOk.of_info (z := (.int .u8 0)) (by kernel_rfl) rfl), rfl, by decide, (fun h => absurd h (by decide))⟩
theorem T9 : T 9 = some ⟨.str, 1, 16, [.string ByteArray.empty], true⟩ := rfl
theorem ok9 : TiOk Tryd.prog 9 ⟨.str, 1, 16, [.string ByteArray.empty], true⟩ := ⟨(by kernel_rfl : Tryd.prog.underlying 9 = _), (TiOk.of_info (z := (.string ByteArray.empty)) (by kernel_rfl) rfl), rfl, by decide, (fun h => absurd h (by decide))⟩
theorem T22 : T 22 = some ⟨(.slice 3), 1, 24, [.slice none 0 0], false⟩ := rfl
theorem ok22 : TiOk Tryd.prog 22 ⟨(.slice 3), 1, 24, [.slice none 0 0], false⟩ := ⟨(by kernel_rfl : Tryd.prog.underlying 22 = _), (TiOk.of_info (z := (.slice none 0 0)) (by kernel_rfl) rfl), rfl, by decide, (fun h => absurd h (by decide))⟩
theorem T28 : T 28 = some ⟨(.struct [(0, 1, false), (1, 1, false), (2, 1, false)]), 3, 40, [.int .i64 0, .int .i64 0, .slice none 0 0], false⟩ := rfl
theorem ok28 : TiOk Tryd.prog 28 ⟨(.struct [(0, 1, false), (1, 1, false), (2, 1, false)]), 3, 40, [.int .i64 0, .int .i64 0, .slice none 0 0], false⟩ := ⟨TiOk.of_struct Tryd.underlying28 (by kernel_rfl), (TiOk.of_info (z := (.agg #[.int .i64 0, .int .i64 0, .slice none 0 0])) (by kernel_rfl) rfl), rfl, by decide, (fun h => absurd h (by decide))⟩
theorem T57 : T 57 = some ⟨.ifc, 1, 16, [.nilIface], false⟩ := rfl
theorem ok57 : TiOk Tryd.prog 57 ⟨.ifc, 1, 16, [.nilIface], false⟩ := ⟨⟨_, Tryd.underlying57⟩, (TiOk.of_info (z := (.nilIface)) (by kernel_rfl) rfl), rfl, by decide, (fun h => absurd h (by decide))⟩
theorem T70 : T 70 = some ⟨.oth, 1, 8, [.nilFunc], false⟩ := rfl
theorem ok70 : TiOk Tryd.prog 70 ⟨.oth, 1, 8, [.nilFunc], false⟩ := ⟨⟨_, Tryd.underlying70, rfl⟩, (TiOk.of_info (z := (.nilFunc)) (by kernel_rfl) rfl), rfl, by decide, (fun h => absurd h (by decide))⟩
theorem T72 : T 72 = some ⟨(.slice 9), 1, 24, [.slice none 0 0], false⟩ := rfl
theorem ok72 : TiOk Tryd.prog 72 ⟨(.slice 9), 1, 24, [.slice none 0 0], false⟩ := ⟨(by kernel_rfl : Tryd.prog.underlying 72 = _), (TiOk.of_info (z := (.slice none 0 0)) (by kernel_rfl) rfl), rfl, by decide, (fun h => absurd h (by decide))⟩
theorem tabOk : TabOk Tryd.prog T := by
  intro t i h
  unfold T at h
  split at h
  · cases h; exact ok3
  · cases h; exact ok4
  · cases h; exact ok5
  · cases h; exact ok9
  · cases h; exact ok22
  · cases h; exact ok28
  · cases h; exact ok57
  · cases h; exact ok70
  · cases h; exact ok72
  · cases h
set_option maxHeartbeats 1000000
def WR (f : FuncId) : Bool := f == 26 || f == 63
def OW (f : FuncId) : Bool := f == 26 || f == 63
def K : FuncId → Nat → List Nat
  | 25, 0 => [2, 5, 28, 29, 30]
  | 25, 1 => [2, 5, 28, 29, 30, 50, 51, 52]
  | 37, 0 => [1, 3]
  | 38, 0 => [1, 3, 4]
  | 38, 1 => [1, 3, 4, 5]
  | 43, 0 => [0, 1, 5]
  | 52, 0 => [0, 4, 5, 6]
  | 59, 0 => [0, 2, 4, 5, 6, 7]
  | 59, 1 => [0, 2, 4, 5, 6, 7, 8, 9]
  | 63, 0 => [0, 1, 5]
  | 64, 0 => [0, 1, 5]
  | 87, 0 => [0, 1, 5, 6, 7]
  | 93, 0 => [0, 1, 7, 8]
  | _, _ => []
@[simp] theorem K25_0 : K 25 0 = [2, 5, 28, 29, 30] := rfl
@[simp] theorem K25_1 : K 25 1 = [2, 5, 28, 29, 30, 50, 51, 52] := rfl
@[simp] theorem K37_0 : K 37 0 = [1, 3] := rfl
@[simp] theorem K38_0 : K 38 0 = [1, 3, 4] := rfl
@[simp] theorem K38_1 : K 38 1 = [1, 3, 4, 5] := rfl
@[simp] theorem K43_0 : K 43 0 = [0, 1, 5] := rfl
@[simp] theorem K52_0 : K 52 0 = [0, 4, 5, 6] := rfl
@[simp] theorem K59_0 : K 59 0 = [0, 2, 4, 5, 6, 7] := rfl
@[simp] theorem K59_1 : K 59 1 = [0, 2, 4, 5, 6, 7, 8, 9] := rfl
@[simp] theorem K63_0 : K 63 0 = [0, 1, 5] := rfl
@[simp] theorem K64_0 : K 64 0 = [0, 1, 5] := rfl
@[simp] theorem K87_0 : K 87 0 = [0, 1, 5, 6, 7] := rfl
@[simp] theorem K93_0 : K 93 0 = [0, 1, 7, 8] := rfl
@[simp] theorem K43_1006 : K 43 1006 = [] := rfl
@[simp] theorem K48_1005 : K 48 1005 = [] := rfl
@[simp] theorem WR5 : WR 5 = false := rfl
@[simp] theorem OW5 : OW 5 = false := rfl
@[simp] theorem WR11 : WR 11 = false := rfl
@[simp] theorem OW11 : OW 11 = false := rfl
@[simp] theorem WR17 : WR 17 = false := rfl
@[simp] theorem OW17 : OW 17 = false := rfl
@[simp] theorem WR24 : WR 24 = false := rfl
@[simp] theorem OW24 : OW 24 = false := rfl
@[simp] theorem WR25 : WR 25 = false := rfl
@[simp] theorem OW25 : OW 25 = false := rfl
@[simp] theorem WR26 : WR 26 = true := rfl
@[simp] theorem OW26 : OW 26 = true := rfl
@[simp] theorem WR27 : WR 27 = false := rfl
@[simp] theorem OW27 : OW 27 = false := rfl
@[simp] theorem WR32 : WR 32 = false := rfl
@[simp] theorem OW32 : OW 32 = false := rfl
@[simp] theorem WR37 : WR 37 = false := rfl
@[simp] theorem OW37 : OW 37 = false := rfl
@[simp] theorem WR38 : WR 38 = false := rfl
@[simp] theorem OW38 : OW 38 = false := rfl
@[simp] theorem WR43 : WR 43 = false := rfl
@[simp] theorem OW43 : OW 43 = false := rfl
@[simp] theorem WR46 : WR 46 = false := rfl
@[simp] theorem OW46 : OW 46 = false := rfl
@[simp] theorem WR47 : WR 47 = false := rfl
@[simp] theorem OW47 : OW 47 = false := rfl
@[simp] theorem WR48 : WR 48 = false := rfl
@[simp] theorem OW48 : OW 48 = false := rfl
@[simp] theorem WR52 : WR 52 = false := rfl
@[simp] theorem OW52 : OW 52 = false := rfl
@[simp] theorem WR59 : WR 59 = false := rfl
@[simp] theorem OW59 : OW 59 = false := rfl
@[simp] theorem WR60 : WR 60 = false := rfl
@[simp] theorem OW60 : OW 60 = false := rfl
@[simp] theorem WR62 : WR 62 = false := rfl
@[simp] theorem OW62 : OW 62 = false := rfl
@[simp] theorem WR63 : WR 63 = true := rfl
@[simp] theorem OW63 : OW 63 = true := rfl
@[simp] theorem WR64 : WR 64 = false := rfl
@[simp] theorem OW64 : OW 64 = false := rfl
@[simp] theorem WR67 : WR 67 = false := rfl
@[simp] theorem OW67 : OW 67 = false := rfl
@[simp] theorem WR70 : WR 70 = false := rfl
@[simp] theorem OW70 : OW 70 = false := rfl
@[simp] theorem WR73 : WR 73 = false := rfl
@[simp] theorem OW73 : OW 73 = false := rfl
@[simp] theorem WR74 : WR 74 = false := rfl
@[simp] theorem OW74 : OW 74 = false := rfl
@[simp] theorem WR77 : WR 77 = false := rfl
@[simp] theorem OW77 : OW 77 = false := rfl
@[simp] theorem WR78 : WR 78 = false := rfl
@[simp] theorem OW78 : OW 78 = false := rfl
@[simp] theorem WR87 : WR 87 = false := rfl
@[simp] theorem OW87 : OW 87 = false := rfl
@[simp] theorem WR88 : WR 88 = false := rfl
@[simp] theorem OW88 : OW 88 = false := rfl
@[simp] theorem WR90 : WR 90 = false := rfl
@[simp] theorem OW90 : OW 90 = false := rfl
@[simp] theorem WR93 : WR 93 = false := rfl
@[simp] theorem OW93 : OW 93 = false := rfl
@[simp] theorem WR41 : WR 41 = false := rfl
@[simp] theorem OW41 : OW 41 = false := rfl
@[simp] theorem WR51 : WR 51 = false := rfl
@[simp] theorem OW51 : OW 51 = false := rfl
@[simp] theorem WR61 : WR 61 = false := rfl
@[simp] theorem OW61 : OW 61 = false := rfl
@[simp] theorem WRt3 : WR 1000003 = false := rfl
@[simp] theorem WRt4 : WR 1000004 = false := rfl
@[simp] theorem WRt5 : WR 1000005 = false := rfl
@[simp] theorem WRt9 : WR 1000009 = false := rfl
@[simp] theorem WRt22 : WR 1000022 = false := rfl
@[simp] theorem WRt28 : WR 1000028 = false := rfl
@[simp] theorem WRt57 : WR 1000057 = false := rfl
@[simp] theorem WRt70 : WR 1000070 = false := rfl
@[simp] theorem WRt72 : WR 1000072 = false := rfl
noncomputable def F_0 : FuncId → Option Func
  | 5 => some Tryd.f5
  | 11 => some Tryd.f11
  | 17 => some Tryd.f17
  | 24 => some Tryd.f24
  | 25 => some Tryd.f25
  | 26 => some Tryd.f26
  | 27 => some Tryd.f27
  | 32 => some Tryd.f32
  | 37 => some Tryd.f37
  | 38 => some Tryd.f38
  | 43 => some Tryd.f43
  | 46 => some Tryd.f46
  | 47 => some Tryd.f47
  | 48 => some Tryd.f48
  | 52 => some Tryd.f52
  | 59 => some Tryd.f59
  | 60 => some Tryd.f60
  | 62 => some Tryd.f62
  | 63 => some Tryd.f63
  | 64 => some Tryd.f64
  | 67 => some Tryd.f67
  | 70 => some Tryd.f70
  | 73 => some Tryd.f73
  | 74 => some Tryd.f74
  | f => none
noncomputable def F_1 : FuncId → Option Func
  | 77 => some Tryd.f77
  | 78 => some Tryd.f78
  | 87 => some Tryd.f87
  | 88 => some Tryd.f88
  | 90 => some Tryd.f90
  | 93 => some Tryd.f93
  | f => F_0 f
noncomputable def F : FuncId → Option Func := F_1
theorem F5 : F 5 = some Tryd.f5 := rfl
theorem chk5 : ∀ c, Tryd.f5.body = some c → chk WR (K 5) Tryd.f5.ntmps c = true := by intro c h; cases h; decide +kernel
theorem F11 : F 11 = some Tryd.f11 := rfl
theorem chk11 : ∀ c, Tryd.f11.body = some c → chk WR (K 11) Tryd.f11.ntmps c = true := by intro c h; cases h; decide +kernel
theorem F17 : F 17 = some Tryd.f17 := rfl
theorem chk17 : ∀ c, Tryd.f17.body = some c → chk WR (K 17) Tryd.f17.ntmps c = true := by intro c h; cases h; decide +kernel
theorem F24 : F 24 = some Tryd.f24 := rfl
theorem chk24 : ∀ c, Tryd.f24.body = some c → chk WR (K 24) Tryd.f24.ntmps c = true := by intro c h; cases h; decide +kernel
theorem F25 : F 25 = some Tryd.f25 := rfl
theorem chk25 : ∀ c, Tryd.f25.body = some c → chk WR (K 25) Tryd.f25.ntmps c = true := by intro c h; cases h; decide +kernel
theorem F26 : F 26 = some Tryd.f26 := rfl
theorem chk26 : ∀ c, Tryd.f26.body = some c → chk WR (K 26) Tryd.f26.ntmps c = true := by intro c h; cases h; decide +kernel
theorem F27 : F 27 = some Tryd.f27 := rfl
theorem chk27 : ∀ c, Tryd.f27.body = some c → chk WR (K 27) Tryd.f27.ntmps c = true := by intro c h; cases h; decide +kernel
theorem F32 : F 32 = some Tryd.f32 := rfl
theorem chk32 : ∀ c, Tryd.f32.body = some c → chk WR (K 32) Tryd.f32.ntmps c = true := by intro c h; cases h; decide +kernel
theorem F37 : F 37 = some Tryd.f37 := rfl
theorem chk37 : ∀ c, Tryd.f37.body = some c → chk WR (K 37) Tryd.f37.ntmps c = true := by intro c h; cases h; decide +kernel
theorem F38 : F 38 = some Tryd.f38 := rfl
theorem chk38 : ∀ c, Tryd.f38.body = some c → chk WR (K 38) Tryd.f38.ntmps c = true := by intro c h; cases h; decide +kernel
theorem F43 : F 43 = some Tryd.f43 := rfl
theorem chk43 : ∀ c, Tryd.f43.body = some c → chk WR (K 43) Tryd.f43.ntmps c = true := by intro c h; cases h; decide +kernel
theorem F46 : F 46 = some Tryd.f46 := rfl
theorem chk46 : ∀ c, Tryd.f46.body = some c → chk WR (K 46) Tryd.f46.ntmps c = true := by intro c h; cases h; decide +kernel
theorem F47 : F 47 = some Tryd.f47 := rfl
theorem chk47 : ∀ c, Tryd.f47.body = some c → chk WR (K 47) Tryd.f47.ntmps c = true := by intro c h; cases h; decide +kernel
theorem F48 : F 48 = some Tryd.f48 := rfl
theorem chk48 : ∀ c, Tryd.f48.body = some c → chk WR (K 48) Tryd.f48.ntmps c = true := by intro c h; cases h; decide +kernel
theorem F52 : F 52 = some Tryd.f52 := rfl
theorem chk52 : ∀ c, Tryd.f52.body = some c → chk WR (K 52) Tryd.f52.ntmps c = true := by intro c h; cases h; decide +kernel
theorem F59 : F 59 = some Tryd.f59 := rfl
theorem chk59 : ∀ c, Tryd.f59.body = some c → chk WR (K 59) Tryd.f59.ntmps c = true := by intro c h; cases h; decide +kernel
theorem F60 : F 60 = some Tryd.f60 := rfl
theorem chk60 : ∀ c, Tryd.f60.body = some c → chk WR (K 60) Tryd.f60.ntmps c = true := by intro c h; cases h; decide +kernel
theorem F62 : F 62 = some Tryd.f62 := rfl
theorem chk62 : ∀ c, Tryd.f62.body = some c → chk WR (K 62) Tryd.f62.ntmps c = true := by intro c h; cases h; decide +kernel
theorem F63 : F 63 = some Tryd.f63 := rfl
theorem chk63 : ∀ c, Tryd.f63.body = some c → chk WR (K 63) Tryd.f63.ntmps c = true := by intro c h; cases h; decide +kernel
theorem F64 : F 64 = some Tryd.f64 := rfl
theorem chk64 : ∀ c, Tryd.f64.body = some c → chk WR (K 64) Tryd.f64.ntmps c = true := by intro c h; cases h; decide +kernel
theorem F67 : F 67 = some Tryd.f67 := rfl
theorem chk67 : ∀ c, Tryd.f67.body = some c → chk WR (K 67) Tryd.f67.ntmps c = true := by intro c h; cases h; decide +kernel
theorem F70 : F 70 = some Tryd.f70 := rfl
theorem chk70 : ∀ c, Tryd.f70.body = some c → chk WR (K 70) Tryd.f70.ntmps c = true := by intro c h; cases h; decide +kernel
theorem F73 : F 73 = some Tryd.f73 := rfl
theorem chk73 : ∀ c, Tryd.f73.body = some c → chk WR (K 73) Tryd.f73.ntmps c = true := by intro c h; cases h; decide +kernel
theorem F74 : F 74 = some Tryd.f74 := rfl
theorem chk74 : ∀ c, Tryd.f74.body = some c → chk WR (K 74) Tryd.f74.ntmps c = true := by intro c h; cases h; decide +kernel
theorem F77 : F 77 = some Tryd.f77 := rfl
theorem chk77 : ∀ c, Tryd.f77.body = some c → chk WR (K 77) Tryd.f77.ntmps c = true := by intro c h; cases h; decide +kernel
theorem F78 : F 78 = some Tryd.f78 := rfl
theorem chk78 : ∀ c, Tryd.f78.body = some c → chk WR (K 78) Tryd.f78.ntmps c = true := by intro c h; cases h; decide +kernel
theorem F87 : F 87 = some Tryd.f87 := rfl
theorem chk87 : ∀ c, Tryd.f87.body = some c → chk WR (K 87) Tryd.f87.ntmps c = true := by intro c h; cases h; decide +kernel
theorem F88 : F 88 = some Tryd.f88 := rfl
theorem chk88 : ∀ c, Tryd.f88.body = some c → chk WR (K 88) Tryd.f88.ntmps c = true := by intro c h; cases h; decide +kernel
theorem F90 : F 90 = some Tryd.f90 := rfl
theorem chk90 : ∀ c, Tryd.f90.body = some c → chk WR (K 90) Tryd.f90.ntmps c = true := by intro c h; cases h; decide +kernel
theorem F93 : F 93 = some Tryd.f93 := rfl
theorem chk93 : ∀ c, Tryd.f93.body = some c → chk WR (K 93) Tryd.f93.ntmps c = true := by intro c h; cases h; decide +kernel
theorem ent {f : FuncId} {fn : Func} (h : Tryd.prog.funcs[f]? = some fn) (hb : fn.body.isSome = true) (hn : (fn.name == "runtime.NumGoroutine") = false) : Enters Tryd.prog f := enters_mk h hb hn
theorem okF_0 : ∀ f fn, F_0 f = some fn → Tryd.prog.funcs[f]? = some fn ∧ Enters Tryd.prog f ∧ ∀ c, fn.body = some c → chk WR (K f) fn.ntmps c = true := by
  intro f fn h
  unfold F_0 at h
  split at h
  · cases h; exact ⟨Tryd.func5, ent Tryd.func5 rfl rfl, chk5⟩
  · cases h; exact ⟨Tryd.func11, ent Tryd.func11 rfl rfl, chk11⟩
  · cases h; exact ⟨Tryd.func17, ent Tryd.func17 rfl rfl, chk17⟩
  · cases h; exact ⟨Tryd.func24, ent Tryd.func24 rfl rfl, chk24⟩
  · cases h; exact ⟨Tryd.func25, ent Tryd.func25 rfl rfl, chk25⟩
  · cases h; exact ⟨Tryd.func26, ent Tryd.func26 rfl rfl, chk26⟩
  · cases h; exact ⟨Tryd.func27, ent Tryd.func27 rfl rfl, chk27⟩
  · cases h; exact ⟨Tryd.func32, ent Tryd.func32 rfl rfl, chk32⟩
  · cases h; exact ⟨Tryd.func37, ent Tryd.func37 rfl rfl, chk37⟩
  · cases h; exact ⟨Tryd.func38, ent Tryd.func38 rfl rfl, chk38⟩
  · cases h; exact ⟨Tryd.func43, ent Tryd.func43 rfl rfl, chk43⟩
  · cases h; exact ⟨Tryd.func46, ent Tryd.func46 rfl rfl, chk46⟩
  · cases h; exact ⟨Tryd.func47, ent Tryd.func47 rfl rfl, chk47⟩
  · cases h; exact ⟨Tryd.func48, ent Tryd.func48 rfl rfl, chk48⟩
  · cases h; exact ⟨Tryd.func52, ent Tryd.func52 rfl rfl, chk52⟩
  · cases h; exact ⟨Tryd.func59, ent Tryd.func59 rfl rfl, chk59⟩
  · cases h; exact ⟨Tryd.func60, ent Tryd.func60 rfl rfl, chk60⟩
  · cases h; exact ⟨Tryd.func62, ent Tryd.func62 rfl rfl, chk62⟩
  · cases h; exact ⟨Tryd.func63, ent Tryd.func63 rfl rfl, chk63⟩
  · cases h; exact ⟨Tryd.func64, ent Tryd.func64 rfl rfl, chk64⟩
  · cases h; exact ⟨Tryd.func67, ent Tryd.func67 rfl rfl, chk67⟩
  · cases h; exact ⟨Tryd.func70, ent Tryd.func70 rfl rfl, chk70⟩
  · cases h; exact ⟨Tryd.func73, ent Tryd.func73 rfl rfl, chk73⟩
  · cases h; exact ⟨Tryd.func74, ent Tryd.func74 rfl rfl, chk74⟩
  · cases h
theorem okF_1 : ∀ f fn, F_1 f = some fn → Tryd.prog.funcs[f]? = some fn ∧ Enters Tryd.prog f ∧ ∀ c, fn.body = some c → chk WR (K f) fn.ntmps c = true := by
  intro f fn h
  unfold F_1 at h
  split at h
  · cases h; exact ⟨Tryd.func77, ent Tryd.func77 rfl rfl, chk77⟩
  · cases h; exact ⟨Tryd.func78, ent Tryd.func78 rfl rfl, chk78⟩
  · cases h; exact ⟨Tryd.func87, ent Tryd.func87 rfl rfl, chk87⟩
  · cases h; exact ⟨Tryd.func88, ent Tryd.func88 rfl rfl, chk88⟩
  · cases h; exact ⟨Tryd.func90, ent Tryd.func90 rfl rfl, chk90⟩
  · cases h; exact ⟨Tryd.func93, ent Tryd.func93 rfl rfl, chk93⟩
  · exact okF_0 _ _ h
end Go.Proofs.YtalpgpjhloohfaaDoor.Eng
