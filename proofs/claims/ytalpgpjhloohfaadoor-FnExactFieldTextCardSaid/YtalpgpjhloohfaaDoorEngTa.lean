/- The types, the functions and the loops' live slots that the laws reach, first part. No conditions. -/
import Derived.Test.YtalpgpjhloohfaaDoorEngS
import Derived.Test.YtalpgpjhloohfaaDoorProg
import Derived.KernelRfl
import Derived.Test.YtalpgpjhloohfaaDoorShelf
import Derived.WalkKit
import Derived.Laws.Externs
namespace Go.Proofs.YtalpgpjhloohfaaDoor.Eng
open Go Go.Proofs
set_option maxRecDepth 100000
def T : Tab
  | 3 => some ⟨.int .i64, 1, 8, [.int .i64 0], true⟩
  | 4 => some ⟨.bool, 1, 1, [.bool false], true⟩
  | 9 => some ⟨.str, 1, 16, [.string ByteArray.empty], true⟩
  | 22 => some ⟨(.slice 3), 1, 24, [.slice none 0 0], false⟩
  | 24 => some ⟨(.struct [(0, 1, false), (1, 1, false), (2, 1, false)]), 3, 40, [.int .i64 0, .int .i64 0, .slice none 0 0], false⟩
  | 28 => some ⟨(.struct [(0, 1, false), (1, 1, false), (2, 1, false)]), 3, 40, [.int .i64 0, .int .i64 0, .slice none 0 0], false⟩
  | 55 => some ⟨(.struct [(0, 1, false), (1, 1, false)]), 2, 32, [.pointer none, .slice none 0 0], false⟩
  | 70 => some ⟨.oth, 1, 8, [.nilFunc], false⟩
  | _ => none
theorem T3 : T 3 = some ⟨.int .i64, 1, 8, [.int .i64 0], true⟩ := rfl
theorem ok3 : TiOk Tryd.prog 3 ⟨.int .i64, 1, 8, [.int .i64 0], true⟩ := ⟨(by kernel_rfl : Tryd.prog.underlying 3 = _), (TiOk.of_info (z := (.int .i64 0)) (by kernel_rfl) rfl), rfl, by decide, (fun h => absurd h (by decide))⟩
theorem T4 : T 4 = some ⟨.bool, 1, 1, [.bool false], true⟩ := rfl
theorem ok4 : TiOk Tryd.prog 4 ⟨.bool, 1, 1, [.bool false], true⟩ := ⟨(by kernel_rfl : Tryd.prog.underlying 4 = _), (TiOk.of_info (z := (.bool false)) (by kernel_rfl) rfl), rfl, by decide, (fun h => absurd h (by decide))⟩
theorem T9 : T 9 = some ⟨.str, 1, 16, [.string ByteArray.empty], true⟩ := rfl
theorem ok9 : TiOk Tryd.prog 9 ⟨.str, 1, 16, [.string ByteArray.empty], true⟩ := ⟨(by kernel_rfl : Tryd.prog.underlying 9 = _), (TiOk.of_info (z := (.string ByteArray.empty)) (by kernel_rfl) rfl), rfl, by decide, (fun h => absurd h (by decide))⟩
theorem T22 : T 22 = some ⟨(.slice 3), 1, 24, [.slice none 0 0], false⟩ := rfl
theorem ok22 : TiOk Tryd.prog 22 ⟨(.slice 3), 1, 24, [.slice none 0 0], false⟩ := ⟨(by kernel_rfl : Tryd.prog.underlying 22 = _), (TiOk.of_info (z := (.slice none 0 0)) (by kernel_rfl) rfl), rfl, by decide, (fun h => absurd h (by decide))⟩
theorem T24 : T 24 = some ⟨(.struct [(0, 1, false), (1, 1, false), (2, 1, false)]), 3, 40, [.int .i64 0, .int .i64 0, .slice none 0 0], false⟩ := rfl
theorem ok24 : TiOk Tryd.prog 24 ⟨(.struct [(0, 1, false), (1, 1, false), (2, 1, false)]), 3, 40, [.int .i64 0, .int .i64 0, .slice none 0 0], false⟩ := ⟨TiOk.of_struct Tryd.underlying24 (by kernel_rfl), (TiOk.of_info (z := (.agg #[.int .i64 0, .int .i64 0, .slice none 0 0])) (by kernel_rfl) rfl), rfl, by decide, (fun h => absurd h (by decide))⟩
theorem T28 : T 28 = some ⟨(.struct [(0, 1, false), (1, 1, false), (2, 1, false)]), 3, 40, [.int .i64 0, .int .i64 0, .slice none 0 0], false⟩ := rfl
theorem ok28 : TiOk Tryd.prog 28 ⟨(.struct [(0, 1, false), (1, 1, false), (2, 1, false)]), 3, 40, [.int .i64 0, .int .i64 0, .slice none 0 0], false⟩ := ⟨TiOk.of_struct Tryd.underlying28 (by kernel_rfl), (TiOk.of_info (z := (.agg #[.int .i64 0, .int .i64 0, .slice none 0 0])) (by kernel_rfl) rfl), rfl, by decide, (fun h => absurd h (by decide))⟩
theorem T55 : T 55 = some ⟨(.struct [(0, 1, false), (1, 1, false)]), 2, 32, [.pointer none, .slice none 0 0], false⟩ := rfl
theorem ok55 : TiOk Tryd.prog 55 ⟨(.struct [(0, 1, false), (1, 1, false)]), 2, 32, [.pointer none, .slice none 0 0], false⟩ := ⟨TiOk.of_struct Tryd.underlying55 (by kernel_rfl), (TiOk.of_info (z := (.agg #[.pointer none, .slice none 0 0])) (by kernel_rfl) rfl), rfl, by decide, (fun h => absurd h (by decide))⟩
theorem T70 : T 70 = some ⟨.oth, 1, 8, [.nilFunc], false⟩ := rfl
theorem ok70 : TiOk Tryd.prog 70 ⟨.oth, 1, 8, [.nilFunc], false⟩ := ⟨⟨_, Tryd.underlying70, rfl⟩, (TiOk.of_info (z := (.nilFunc)) (by kernel_rfl) rfl), rfl, by decide, (fun h => absurd h (by decide))⟩
theorem tabOk : TabOk Tryd.prog T := by
  intro t i h
  unfold T at h
  split at h
  · cases h; exact ok3
  · cases h; exact ok4
  · cases h; exact ok9
  · cases h; exact ok22
  · cases h; exact ok24
  · cases h; exact ok28
  · cases h; exact ok55
  · cases h; exact ok70
  · cases h
set_option maxHeartbeats 1000000
def WR (f : FuncId) : Bool := f == 999999
def OW (f : FuncId) : Bool := f == 999999
def BL : FuncId → Option (Bool × TypeId × TypeId)
  | 40 => some (true, 55, 5)
  | 42 => some (false, 55, 5)
  | _ => none
def K : FuncId → Nat → List Nat
  | 10, 0 => [1, 4, 11, 12, 13]
  | 37, 0 => [1, 3]
  | 38, 0 => [1, 3, 4]
  | 38, 1 => [1, 3, 4, 5]
  | 39, 0 => [0, 3, 4]
  | 43, 0 => [0, 1, 5]
  | 93, 0 => [0, 1, 7, 8]
  | _, _ => []
@[simp] theorem K10_0 : K 10 0 = [1, 4, 11, 12, 13] := rfl
@[simp] theorem K37_0 : K 37 0 = [1, 3] := rfl
@[simp] theorem K38_0 : K 38 0 = [1, 3, 4] := rfl
@[simp] theorem K38_1 : K 38 1 = [1, 3, 4, 5] := rfl
@[simp] theorem K39_0 : K 39 0 = [0, 3, 4] := rfl
@[simp] theorem K43_0 : K 43 0 = [0, 1, 5] := rfl
@[simp] theorem K93_0 : K 93 0 = [0, 1, 7, 8] := rfl
@[simp] theorem K3_1010 : K 3 1010 = [] := rfl
@[simp] theorem K43_1006 : K 43 1006 = [] := rfl
@[simp] theorem K48_1005 : K 48 1005 = [] := rfl
@[simp] theorem BL3 : BL 3 = none := rfl
@[simp] theorem WR3 : WR 3 = false := rfl
@[simp] theorem OW3 : OW 3 = false := rfl
@[simp] theorem BL7 : BL 7 = none := rfl
@[simp] theorem WR7 : WR 7 = false := rfl
@[simp] theorem OW7 : OW 7 = false := rfl
@[simp] theorem BL8 : BL 8 = none := rfl
@[simp] theorem WR8 : WR 8 = false := rfl
@[simp] theorem OW8 : OW 8 = false := rfl
@[simp] theorem BL9 : BL 9 = none := rfl
@[simp] theorem WR9 : WR 9 = false := rfl
@[simp] theorem OW9 : OW 9 = false := rfl
@[simp] theorem BL10 : BL 10 = none := rfl
@[simp] theorem WR10 : WR 10 = false := rfl
@[simp] theorem OW10 : OW 10 = false := rfl
@[simp] theorem BL11 : BL 11 = none := rfl
@[simp] theorem WR11 : WR 11 = false := rfl
@[simp] theorem OW11 : OW 11 = false := rfl
@[simp] theorem BL32 : BL 32 = none := rfl
@[simp] theorem WR32 : WR 32 = false := rfl
@[simp] theorem OW32 : OW 32 = false := rfl
@[simp] theorem BL36 : BL 36 = none := rfl
@[simp] theorem WR36 : WR 36 = false := rfl
@[simp] theorem OW36 : OW 36 = false := rfl
@[simp] theorem BL37 : BL 37 = none := rfl
@[simp] theorem WR37 : WR 37 = false := rfl
@[simp] theorem OW37 : OW 37 = false := rfl
@[simp] theorem BL38 : BL 38 = none := rfl
@[simp] theorem WR38 : WR 38 = false := rfl
@[simp] theorem OW38 : OW 38 = false := rfl
@[simp] theorem BL39 : BL 39 = none := rfl
@[simp] theorem WR39 : WR 39 = false := rfl
@[simp] theorem OW39 : OW 39 = false := rfl
@[simp] theorem BL43 : BL 43 = none := rfl
@[simp] theorem WR43 : WR 43 = false := rfl
@[simp] theorem OW43 : OW 43 = false := rfl
@[simp] theorem BL46 : BL 46 = none := rfl
@[simp] theorem WR46 : WR 46 = false := rfl
@[simp] theorem OW46 : OW 46 = false := rfl
@[simp] theorem BL47 : BL 47 = none := rfl
@[simp] theorem WR47 : WR 47 = false := rfl
@[simp] theorem OW47 : OW 47 = false := rfl
@[simp] theorem BL48 : BL 48 = none := rfl
@[simp] theorem WR48 : WR 48 = false := rfl
@[simp] theorem OW48 : OW 48 = false := rfl
@[simp] theorem BL67 : BL 67 = none := rfl
@[simp] theorem WR67 : WR 67 = false := rfl
@[simp] theorem OW67 : OW 67 = false := rfl
@[simp] theorem BL70 : BL 70 = none := rfl
@[simp] theorem WR70 : WR 70 = false := rfl
@[simp] theorem OW70 : OW 70 = false := rfl
@[simp] theorem BL73 : BL 73 = none := rfl
@[simp] theorem WR73 : WR 73 = false := rfl
@[simp] theorem OW73 : OW 73 = false := rfl
@[simp] theorem BL74 : BL 74 = none := rfl
@[simp] theorem WR74 : WR 74 = false := rfl
@[simp] theorem OW74 : OW 74 = false := rfl
@[simp] theorem BL77 : BL 77 = none := rfl
@[simp] theorem WR77 : WR 77 = false := rfl
@[simp] theorem OW77 : OW 77 = false := rfl
@[simp] theorem BL78 : BL 78 = none := rfl
@[simp] theorem WR78 : WR 78 = false := rfl
@[simp] theorem OW78 : OW 78 = false := rfl
@[simp] theorem BL93 : BL 93 = none := rfl
@[simp] theorem WR93 : WR 93 = false := rfl
@[simp] theorem OW93 : OW 93 = false := rfl
@[simp] theorem BL41 : BL 41 = none := rfl
@[simp] theorem WR41 : WR 41 = false := rfl
@[simp] theorem OW41 : OW 41 = false := rfl
@[simp] theorem BL40 : BL 40 = some (true, 55, 5) := rfl
@[simp] theorem WR40 : WR 40 = false := rfl
@[simp] theorem OW40 : OW 40 = false := rfl
@[simp] theorem BL42 : BL 42 = some (false, 55, 5) := rfl
@[simp] theorem WR42 : WR 42 = false := rfl
@[simp] theorem OW42 : OW 42 = false := rfl
@[simp] theorem WRt3 : WR 1000003 = false := rfl
@[simp] theorem WRt4 : WR 1000004 = false := rfl
@[simp] theorem WRt9 : WR 1000009 = false := rfl
@[simp] theorem WRt22 : WR 1000022 = false := rfl
@[simp] theorem WRt24 : WR 1000024 = false := rfl
@[simp] theorem WRt28 : WR 1000028 = false := rfl
@[simp] theorem WRt55 : WR 1000055 = false := rfl
@[simp] theorem WRt70 : WR 1000070 = false := rfl
noncomputable def F_0 : FuncId → Option Func
  | 3 => some Tryd.f3
  | 7 => some Tryd.f7
  | 8 => some Tryd.f8
  | 9 => some Tryd.f9
  | 10 => some Tryd.f10
  | 11 => some Tryd.f11
  | 32 => some Tryd.f32
  | 36 => some Tryd.f36
  | 37 => some Tryd.f37
  | 38 => some Tryd.f38
  | 39 => some Tryd.f39
  | 43 => some Tryd.f43
  | 46 => some Tryd.f46
  | 47 => some Tryd.f47
  | 48 => some Tryd.f48
  | 67 => some Tryd.f67
  | 70 => some Tryd.f70
  | 73 => some Tryd.f73
  | 74 => some Tryd.f74
  | 77 => some Tryd.f77
  | 78 => some Tryd.f78
  | 93 => some Tryd.f93
  | f => none
noncomputable def F : FuncId → Option Func := F_0
theorem F3 : F 3 = some Tryd.f3 := rfl
theorem chk3 : ∀ c, Tryd.f3.body = some c → chk WR (K 3) Tryd.f3.ntmps c = true := by intro c h; cases h; decide +kernel
theorem F7 : F 7 = some Tryd.f7 := rfl
theorem chk7 : ∀ c, Tryd.f7.body = some c → chk WR (K 7) Tryd.f7.ntmps c = true := by intro c h; cases h; decide +kernel
theorem F8 : F 8 = some Tryd.f8 := rfl
theorem chk8 : ∀ c, Tryd.f8.body = some c → chk WR (K 8) Tryd.f8.ntmps c = true := by intro c h; cases h; decide +kernel
theorem F9 : F 9 = some Tryd.f9 := rfl
theorem chk9 : ∀ c, Tryd.f9.body = some c → chk WR (K 9) Tryd.f9.ntmps c = true := by intro c h; cases h; decide +kernel
theorem F10 : F 10 = some Tryd.f10 := rfl
theorem chk10 : ∀ c, Tryd.f10.body = some c → chk WR (K 10) Tryd.f10.ntmps c = true := by intro c h; cases h; decide +kernel
theorem F11 : F 11 = some Tryd.f11 := rfl
theorem chk11 : ∀ c, Tryd.f11.body = some c → chk WR (K 11) Tryd.f11.ntmps c = true := by intro c h; cases h; decide +kernel
theorem F32 : F 32 = some Tryd.f32 := rfl
theorem chk32 : ∀ c, Tryd.f32.body = some c → chk WR (K 32) Tryd.f32.ntmps c = true := by intro c h; cases h; decide +kernel
theorem F36 : F 36 = some Tryd.f36 := rfl
theorem chk36 : ∀ c, Tryd.f36.body = some c → chk WR (K 36) Tryd.f36.ntmps c = true := by intro c h; cases h; decide +kernel
theorem F37 : F 37 = some Tryd.f37 := rfl
theorem chk37 : ∀ c, Tryd.f37.body = some c → chk WR (K 37) Tryd.f37.ntmps c = true := by intro c h; cases h; decide +kernel
theorem F38 : F 38 = some Tryd.f38 := rfl
theorem chk38 : ∀ c, Tryd.f38.body = some c → chk WR (K 38) Tryd.f38.ntmps c = true := by intro c h; cases h; decide +kernel
theorem F39 : F 39 = some Tryd.f39 := rfl
theorem chk39 : ∀ c, Tryd.f39.body = some c → chk WR (K 39) Tryd.f39.ntmps c = true := by intro c h; cases h; decide +kernel
theorem F43 : F 43 = some Tryd.f43 := rfl
theorem chk43 : ∀ c, Tryd.f43.body = some c → chk WR (K 43) Tryd.f43.ntmps c = true := by intro c h; cases h; decide +kernel
theorem F46 : F 46 = some Tryd.f46 := rfl
theorem chk46 : ∀ c, Tryd.f46.body = some c → chk WR (K 46) Tryd.f46.ntmps c = true := by intro c h; cases h; decide +kernel
theorem F47 : F 47 = some Tryd.f47 := rfl
theorem chk47 : ∀ c, Tryd.f47.body = some c → chk WR (K 47) Tryd.f47.ntmps c = true := by intro c h; cases h; decide +kernel
theorem F48 : F 48 = some Tryd.f48 := rfl
theorem chk48 : ∀ c, Tryd.f48.body = some c → chk WR (K 48) Tryd.f48.ntmps c = true := by intro c h; cases h; decide +kernel
theorem F67 : F 67 = some Tryd.f67 := rfl
theorem chk67 : ∀ c, Tryd.f67.body = some c → chk WR (K 67) Tryd.f67.ntmps c = true := by intro c h; cases h; decide +kernel
theorem F70 : F 70 = some Tryd.f70 := rfl
theorem chk70 : ∀ c, Tryd.f70.body = some c → chk WR (K 70) Tryd.f70.ntmps c = true := by intro c h; cases h; decide +kernel
theorem F73 : F 73 = some Tryd.f73 := rfl
theorem chk73 : ∀ c, Tryd.f73.body = some c → chk WR (K 73) Tryd.f73.ntmps c = true := by intro c h; cases h; decide +kernel
theorem F74 : F 74 = some Tryd.f74 := rfl
theorem chk74 : ∀ c, Tryd.f74.body = some c → chk WR (K 74) Tryd.f74.ntmps c = true := by intro c h; cases h; decide +kernel
theorem F77 : F 77 = some Tryd.f77 := rfl
theorem chk77 : ∀ c, Tryd.f77.body = some c → chk WR (K 77) Tryd.f77.ntmps c = true := by intro c h; cases h; decide +kernel
theorem F78 : F 78 = some Tryd.f78 := rfl
theorem chk78 : ∀ c, Tryd.f78.body = some c → chk WR (K 78) Tryd.f78.ntmps c = true := by intro c h; cases h; decide +kernel
theorem F93 : F 93 = some Tryd.f93 := rfl
theorem chk93 : ∀ c, Tryd.f93.body = some c → chk WR (K 93) Tryd.f93.ntmps c = true := by intro c h; cases h; decide +kernel
theorem ent {f : FuncId} {fn : Func} (h : Tryd.prog.funcs[f]? = some fn) (hb : fn.body.isSome = true) (hn : (fn.name == "runtime.NumGoroutine") = false) : Enters Tryd.prog f := enters_mk h hb hn
theorem okF_0 : ∀ f fn, F_0 f = some fn → Tryd.prog.funcs[f]? = some fn ∧ Enters Tryd.prog f ∧ ∀ c, fn.body = some c → chk WR (K f) fn.ntmps c = true := by
  intro f fn h
  unfold F_0 at h
  split at h
  · cases h; exact ⟨Tryd.func3, ent Tryd.func3 rfl rfl, chk3⟩
  · cases h; exact ⟨Tryd.func7, ent Tryd.func7 rfl rfl, chk7⟩
  · cases h; exact ⟨Tryd.func8, ent Tryd.func8 rfl rfl, chk8⟩
  · cases h; exact ⟨Tryd.func9, ent Tryd.func9 rfl rfl, chk9⟩
  · cases h; exact ⟨Tryd.func10, ent Tryd.func10 rfl rfl, chk10⟩
  · cases h; exact ⟨Tryd.func11, ent Tryd.func11 rfl rfl, chk11⟩
  · cases h; exact ⟨Tryd.func32, ent Tryd.func32 rfl rfl, chk32⟩
  · cases h; exact ⟨Tryd.func36, ent Tryd.func36 rfl rfl, chk36⟩
  · cases h; exact ⟨Tryd.func37, ent Tryd.func37 rfl rfl, chk37⟩
  · cases h; exact ⟨Tryd.func38, ent Tryd.func38 rfl rfl, chk38⟩
  · cases h; exact ⟨Tryd.func39, ent Tryd.func39 rfl rfl, chk39⟩
  · cases h; exact ⟨Tryd.func43, ent Tryd.func43 rfl rfl, chk43⟩
  · cases h; exact ⟨Tryd.func46, ent Tryd.func46 rfl rfl, chk46⟩
  · cases h; exact ⟨Tryd.func47, ent Tryd.func47 rfl rfl, chk47⟩
  · cases h; exact ⟨Tryd.func48, ent Tryd.func48 rfl rfl, chk48⟩
  · cases h; exact ⟨Tryd.func67, ent Tryd.func67 rfl rfl, chk67⟩
  · cases h; exact ⟨Tryd.func70, ent Tryd.func70 rfl rfl, chk70⟩
  · cases h; exact ⟨Tryd.func73, ent Tryd.func73 rfl rfl, chk73⟩
  · cases h; exact ⟨Tryd.func74, ent Tryd.func74 rfl rfl, chk74⟩
  · cases h; exact ⟨Tryd.func77, ent Tryd.func77 rfl rfl, chk77⟩
  · cases h; exact ⟨Tryd.func78, ent Tryd.func78 rfl rfl, chk78⟩
  · cases h; exact ⟨Tryd.func93, ent Tryd.func93 rfl rfl, chk93⟩
  · cases h
end Go.Proofs.YtalpgpjhloohfaaDoor.Eng
