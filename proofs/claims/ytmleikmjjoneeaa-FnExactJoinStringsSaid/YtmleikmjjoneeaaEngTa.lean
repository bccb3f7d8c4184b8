/- The types, the functions and the loops' live slots that the laws reach, first part. No conditions. -/
import Derived.Test.YtmleikmjjoneeaaEngS
import Derived.Test.YtmleikmjjoneeaaProg
import Derived.KernelRfl
import Derived.Test.YtmleikmjjoneeaaShelf
namespace Go.Proofs.Ytmleikmjjoneeaa.Eng
open Go Go.Proofs
set_option maxRecDepth 100000
def T : Tab
  | 3 => some ⟨.int .i64, 1, 8, [.int .i64 0], true⟩
  | 4 => some ⟨.bool, 1, 1, [.bool false], true⟩
  | 5 => some ⟨.int .u8, 1, 1, [.int .u8 0], true⟩
  | 9 => some ⟨.str, 1, 16, [.string ByteArray.empty], true⟩
  | 22 => some ⟨(.slice 9), 1, 24, [.slice none 0 0], false⟩
  | _ => none
theorem T3 : T 3 = some ⟨.int .i64, 1, 8, [.int .i64 0], true⟩ := rfl
theorem ok3 : TiOk Try.prog 3 ⟨.int .i64, 1, 8, [.int .i64 0], true⟩ := ⟨(by kernel_rfl : Try.prog.underlying 3 = _), (TiOk.of_info (z := (.int .i64 0)) (by kernel_rfl) rfl), rfl, by decide, (fun h => absurd h (by decide))⟩
theorem T4 : T 4 = some ⟨.bool, 1, 1, [.bool false], true⟩ := rfl
theorem ok4 : TiOk Try.prog 4 ⟨.bool, 1, 1, [.bool false], true⟩ := ⟨(by kernel_rfl : Try.prog.underlying 4 = _), (TiOk.of_info (z := (.bool false)) (by kernel_rfl) rfl), rfl, by decide, (fun h => absurd h (by decide))⟩
theorem T5 : T 5 = some ⟨.int .u8, 1, 1, [.int .u8 0], true⟩ := rfl
theorem ok5 : TiOk Try.prog 5 ⟨.int .u8, 1, 1, [.int .u8 0], true⟩ := ⟨(by kernel_rfl : Try.prog.underlying 5 = _), (TiOk.of_info (z := (.int .u8 0)) (by kernel_rfl) rfl), rfl, by decide, (fun h => absurd h (by decide))⟩
theorem T9 : T 9 = some ⟨.str, 1, 16, [.string ByteArray.empty], true⟩ := rfl
theorem ok9 : TiOk Try.prog 9 ⟨.str, 1, 16, [.string ByteArray.empty], true⟩ := ⟨(by kernel_rfl : Try.prog.underlying 9 = _), (TiOk.of_info (z := (.string ByteArray.empty)) (by kernel_rfl) rfl), rfl, by decide, (fun h => absurd h (by decide))⟩
theorem T22 : T 22 = some ⟨(.slice 9), 1, 24, [.slice none 0 0], false⟩ := rfl
theorem ok22 : TiOk Try.prog 22 ⟨(.slice 9), 1, 24, [.slice none 0 0], false⟩ := ⟨(by kernel_rfl : Try.prog.underlying 22 = _), (TiOk.of_info (z := (.slice none 0 0)) (by kernel_rfl) rfl), rfl, by decide, (fun h => absurd h (by decide))⟩
theorem tabOk : TabOk Try.prog T := by
  intro t i h
  unfold T at h
  split at h
  · cases h; exact ok3
  · cases h; exact ok4
  · cases h; exact ok5
  · cases h; exact ok9
  · cases h; exact ok22
  · cases h
set_option maxHeartbeats 1000000
def WR (f : FuncId) : Bool := f == 999999
def OW (f : FuncId) : Bool := f == 999999
def K : FuncId → Nat → List Nat
  | 4, 0 => [0, 1, 5]
  | 5, 0 => [0, 1, 6, 7]
  | 6, 0 => [0, 3, 4]
  | 7, 0 => [0, 1, 6, 20, 21, 22]
  | 8, 0 => [0, 1, 5]
  | 9, 0 => [0, 1, 5]
  | _, _ => []
@[simp] theorem K4_0 : K 4 0 = [0, 1, 5] := rfl
@[simp] theorem K5_0 : K 5 0 = [0, 1, 6, 7] := rfl
@[simp] theorem K6_0 : K 6 0 = [0, 3, 4] := rfl
@[simp] theorem K7_0 : K 7 0 = [0, 1, 6, 20, 21, 22] := rfl
@[simp] theorem K8_0 : K 8 0 = [0, 1, 5] := rfl
@[simp] theorem K9_0 : K 9 0 = [0, 1, 5] := rfl
@[simp] theorem K5_1007 : K 5 1007 = [] := rfl
@[simp] theorem K8_1006 : K 8 1006 = [] := rfl
@[simp] theorem WR3 : WR 3 = false := rfl
@[simp] theorem OW3 : OW 3 = false := rfl
@[simp] theorem WR4 : WR 4 = false := rfl
@[simp] theorem OW4 : OW 4 = false := rfl
@[simp] theorem WR5 : WR 5 = false := rfl
@[simp] theorem OW5 : OW 5 = false := rfl
@[simp] theorem WR6 : WR 6 = false := rfl
@[simp] theorem OW6 : OW 6 = false := rfl
@[simp] theorem WR7 : WR 7 = false := rfl
@[simp] theorem OW7 : OW 7 = false := rfl
@[simp] theorem WR8 : WR 8 = false := rfl
@[simp] theorem OW8 : OW 8 = false := rfl
@[simp] theorem WR9 : WR 9 = false := rfl
@[simp] theorem OW9 : OW 9 = false := rfl
@[simp] theorem WR10 : WR 10 = false := rfl
@[simp] theorem OW10 : OW 10 = false := rfl
@[simp] theorem WR11 : WR 11 = false := rfl
@[simp] theorem OW11 : OW 11 = false := rfl
@[simp] theorem WR12 : WR 12 = false := rfl
@[simp] theorem OW12 : OW 12 = false := rfl
@[simp] theorem WRt3 : WR 1000003 = false := rfl
@[simp] theorem WRt4 : WR 1000004 = false := rfl
@[simp] theorem WRt5 : WR 1000005 = false := rfl
@[simp] theorem WRt9 : WR 1000009 = false := rfl
@[simp] theorem WRt22 : WR 1000022 = false := rfl
noncomputable def F_0 : FuncId → Option Func
  | 3 => some Try.f3
  | 4 => some Try.f4
  | 5 => some Try.f5
  | 6 => some Try.f6
  | 7 => some Try.f7
  | 8 => some Try.f8
  | 9 => some Try.f9
  | 10 => some Try.f10
  | f => none
noncomputable def F : FuncId → Option Func := F_0
theorem F3 : F 3 = some Try.f3 := rfl
theorem chk3 : ∀ c, Try.f3.body = some c → chk WR (K 3) Try.f3.ntmps c = true := by intro c h; cases h; decide +kernel
theorem F4 : F 4 = some Try.f4 := rfl
theorem chk4 : ∀ c, Try.f4.body = some c → chk WR (K 4) Try.f4.ntmps c = true := by intro c h; cases h; decide +kernel
theorem F5 : F 5 = some Try.f5 := rfl
theorem chk5 : ∀ c, Try.f5.body = some c → chk WR (K 5) Try.f5.ntmps c = true := by intro c h; cases h; decide +kernel
theorem F6 : F 6 = some Try.f6 := rfl
theorem chk6 : ∀ c, Try.f6.body = some c → chk WR (K 6) Try.f6.ntmps c = true := by intro c h; cases h; decide +kernel
theorem F7 : F 7 = some Try.f7 := rfl
theorem chk7 : ∀ c, Try.f7.body = some c → chk WR (K 7) Try.f7.ntmps c = true := by intro c h; cases h; decide +kernel
theorem F8 : F 8 = some Try.f8 := rfl
theorem chk8 : ∀ c, Try.f8.body = some c → chk WR (K 8) Try.f8.ntmps c = true := by intro c h; cases h; decide +kernel
theorem F9 : F 9 = some Try.f9 := rfl
theorem chk9 : ∀ c, Try.f9.body = some c → chk WR (K 9) Try.f9.ntmps c = true := by intro c h; cases h; decide +kernel
theorem F10 : F 10 = some Try.f10 := rfl
theorem chk10 : ∀ c, Try.f10.body = some c → chk WR (K 10) Try.f10.ntmps c = true := by intro c h; cases h; decide +kernel
theorem ent {f : FuncId} {fn : Func} (h : Try.prog.funcs[f]? = some fn) (hb : fn.body.isSome = true) (hn : (fn.name == "runtime.NumGoroutine") = false) : Enters Try.prog f := enters_mk h hb hn
theorem okF_0 : ∀ f fn, F_0 f = some fn → Try.prog.funcs[f]? = some fn ∧ Enters Try.prog f ∧ ∀ c, fn.body = some c → chk WR (K f) fn.ntmps c = true := by
  intro f fn h
  unfold F_0 at h
  split at h
  · cases h; exact ⟨Try.func3, ent Try.func3 rfl rfl, chk3⟩
  · cases h; exact ⟨Try.func4, ent Try.func4 rfl rfl, chk4⟩
  · cases h; exact ⟨Try.func5, ent Try.func5 rfl rfl, chk5⟩
  · cases h; exact ⟨Try.func6, ent Try.func6 rfl rfl, chk6⟩
  · cases h; exact ⟨Try.func7, ent Try.func7 rfl rfl, chk7⟩
  · cases h; exact ⟨Try.func8, ent Try.func8 rfl rfl, chk8⟩
  · cases h; exact ⟨Try.func9, ent Try.func9 rfl rfl, chk9⟩
  · cases h; exact ⟨Try.func10, ent Try.func10 rfl rfl, chk10⟩
  · cases h
end Go.Proofs.Ytmleikmjjoneeaa.Eng
