/- The types, the functions and the loops' live slots that the laws reach, first part. No conditions. -/
import Derived.Test.YtllneakafpldjaaEngS
import Derived.Test.YtllneakafpldjaaProg
import Derived.KernelRfl
import Derived.WalkKit
import Derived.WalkKit
import Derived.Laws.Externs
namespace Go.Proofs.Ytllneakafpldjaa.Eng
open Go Go.Proofs
set_option maxRecDepth 100000
def T : Tab
  | 3 => some ⟨.int .i64, 1, 8, [.int .i64 0], true⟩
  | 4 => some ⟨.bool, 1, 1, [.bool false], true⟩
  | 22 => some ⟨(.slice 37), 1, 24, [.slice none 0 0], false⟩
  | 24 => some ⟨(.slice 35), 1, 24, [.slice none 0 0], false⟩
  | 35 => some ⟨(.struct [(0, 1, false), (1, 1, false)]), 2, 16, [.int .i64 0, .int .i64 0], true⟩
  | 37 => some ⟨(.struct [(0, 1, false), (1, 1, false)]), 2, 16, [.int .i64 0, .int .i64 0], true⟩
  | _ => none
theorem T3 : T 3 = some ⟨.int .i64, 1, 8, [.int .i64 0], true⟩ := rfl
theorem ok3 : TiOk Try.prog 3 ⟨.int .i64, 1, 8, [.int .i64 0], true⟩ := ⟨(by kernel_rfl : Try.prog.underlying 3 = _), (TiOk.of_info (z := (.int .i64 0)) (by kernel_rfl) rfl), rfl, by decide, (fun h => absurd h (by decide))⟩
theorem T4 : T 4 = some ⟨.bool, 1, 1, [.bool false], true⟩ := rfl
theorem ok4 : TiOk Try.prog 4 ⟨.bool, 1, 1, [.bool false], true⟩ := ⟨(by kernel_rfl : Try.prog.underlying 4 = _), (TiOk.of_info (z := (.bool false)) (by kernel_rfl) rfl), rfl, by decide, (fun h => absurd h (by decide))⟩
theorem T22 : T 22 = some ⟨(.slice 37), 1, 24, [.slice none 0 0], false⟩ := rfl
theorem ok22 : TiOk Try.prog 22 ⟨(.slice 37), 1, 24, [.slice none 0 0], false⟩ := ⟨(by kernel_rfl : Try.prog.underlying 22 = _), (TiOk.of_info (z := (.slice none 0 0)) (by kernel_rfl) rfl), rfl, by decide, (fun h => absurd h (by decide))⟩
theorem T24 : T 24 = some ⟨(.slice 35), 1, 24, [.slice none 0 0], false⟩ := rfl
theorem ok24 : TiOk Try.prog 24 ⟨(.slice 35), 1, 24, [.slice none 0 0], false⟩ := ⟨(by kernel_rfl : Try.prog.underlying 24 = _), (TiOk.of_info (z := (.slice none 0 0)) (by kernel_rfl) rfl), rfl, by decide, (fun h => absurd h (by decide))⟩
theorem T35 : T 35 = some ⟨(.struct [(0, 1, false), (1, 1, false)]), 2, 16, [.int .i64 0, .int .i64 0], true⟩ := rfl
theorem ok35 : TiOk Try.prog 35 ⟨(.struct [(0, 1, false), (1, 1, false)]), 2, 16, [.int .i64 0, .int .i64 0], true⟩ := ⟨TiOk.of_struct Try.underlying35 (by kernel_rfl), (TiOk.of_info (z := (.agg #[.int .i64 0, .int .i64 0])) (by kernel_rfl) rfl), rfl, by decide, (fun _ => by kernel_rfl)⟩
theorem T37 : T 37 = some ⟨(.struct [(0, 1, false), (1, 1, false)]), 2, 16, [.int .i64 0, .int .i64 0], true⟩ := rfl
theorem ok37 : TiOk Try.prog 37 ⟨(.struct [(0, 1, false), (1, 1, false)]), 2, 16, [.int .i64 0, .int .i64 0], true⟩ := ⟨TiOk.of_struct Try.underlying37 (by kernel_rfl), (TiOk.of_info (z := (.agg #[.int .i64 0, .int .i64 0])) (by kernel_rfl) rfl), rfl, by decide, (fun _ => by kernel_rfl)⟩
theorem tabOk : TabOk Try.prog T := by
  intro t i h
  unfold T at h
  split at h
  · cases h; exact ok3
  · cases h; exact ok4
  · cases h; exact ok22
  · cases h; exact ok24
  · cases h; exact ok35
  · cases h; exact ok37
  · cases h
set_option maxHeartbeats 1000000
def WR (f : FuncId) : Bool := f == 9
def OW (f : FuncId) : Bool := f == 9
def BL : FuncId → Option (Nat × TypeId × TypeId)
  | 17 => some (2, 35, 35)
  | _ => none
def K : FuncId → Nat → List Nat
  | 5, 0 => [4, 5]
  | 6, 0 => [0, 3, 4]
  | 7, 0 => [4, 5]
  | 7, 1 => [4, 5, 16, 17, 18]
  | 8, 0 => [0, 1, 5]
  | 9, 0 => [0, 1, 5]
  | 10, 0 => [0, 1, 5]
  | 11, 0 => [0, 3, 4]
  | 14, 0 => [3, 9, 10, 11]
  | 16, 0 => [3, 6, 7, 23, 24, 25]
  | _, _ => []
@[simp] theorem K5_0 : K 5 0 = [4, 5] := rfl
@[simp] theorem K6_0 : K 6 0 = [0, 3, 4] := rfl
@[simp] theorem K7_0 : K 7 0 = [4, 5] := rfl
@[simp] theorem K7_1 : K 7 1 = [4, 5, 16, 17, 18] := rfl
@[simp] theorem K8_0 : K 8 0 = [0, 1, 5] := rfl
@[simp] theorem K9_0 : K 9 0 = [0, 1, 5] := rfl
@[simp] theorem K10_0 : K 10 0 = [0, 1, 5] := rfl
@[simp] theorem K11_0 : K 11 0 = [0, 3, 4] := rfl
@[simp] theorem K14_0 : K 14 0 = [3, 9, 10, 11] := rfl
@[simp] theorem K16_0 : K 16 0 = [3, 6, 7, 23, 24, 25] := rfl
@[simp] theorem K7_1010 : K 7 1010 = [] := rfl
@[simp] theorem K8_1006 : K 8 1006 = [] := rfl
@[simp] theorem K12_1003 : K 12 1003 = [] := rfl
@[simp] theorem K12_1007 : K 12 1007 = [] := rfl
@[simp] theorem K16_1011 : K 16 1011 = [] := rfl
@[simp] theorem BL3 : BL 3 = none := rfl
@[simp] theorem WR3 : WR 3 = false := rfl
@[simp] theorem OW3 : OW 3 = false := rfl
@[simp] theorem BL4 : BL 4 = none := rfl
@[simp] theorem WR4 : WR 4 = false := rfl
@[simp] theorem OW4 : OW 4 = false := rfl
@[simp] theorem BL5 : BL 5 = none := rfl
@[simp] theorem WR5 : WR 5 = false := rfl
@[simp] theorem OW5 : OW 5 = false := rfl
@[simp] theorem BL6 : BL 6 = none := rfl
@[simp] theorem WR6 : WR 6 = false := rfl
@[simp] theorem OW6 : OW 6 = false := rfl
@[simp] theorem BL7 : BL 7 = none := rfl
@[simp] theorem WR7 : WR 7 = false := rfl
@[simp] theorem OW7 : OW 7 = false := rfl
@[simp] theorem BL8 : BL 8 = none := rfl
@[simp] theorem WR8 : WR 8 = false := rfl
@[simp] theorem OW8 : OW 8 = false := rfl
@[simp] theorem BL9 : BL 9 = none := rfl
@[simp] theorem WR9 : WR 9 = true := rfl
@[simp] theorem OW9 : OW 9 = true := rfl
@[simp] theorem BL10 : BL 10 = none := rfl
@[simp] theorem WR10 : WR 10 = false := rfl
@[simp] theorem OW10 : OW 10 = false := rfl
@[simp] theorem BL11 : BL 11 = none := rfl
@[simp] theorem WR11 : WR 11 = false := rfl
@[simp] theorem OW11 : OW 11 = false := rfl
@[simp] theorem BL12 : BL 12 = none := rfl
@[simp] theorem WR12 : WR 12 = false := rfl
@[simp] theorem OW12 : OW 12 = false := rfl
@[simp] theorem BL13 : BL 13 = none := rfl
@[simp] theorem WR13 : WR 13 = false := rfl
@[simp] theorem OW13 : OW 13 = false := rfl
@[simp] theorem BL14 : BL 14 = none := rfl
@[simp] theorem WR14 : WR 14 = false := rfl
@[simp] theorem OW14 : OW 14 = false := rfl
@[simp] theorem BL15 : BL 15 = none := rfl
@[simp] theorem WR15 : WR 15 = false := rfl
@[simp] theorem OW15 : OW 15 = false := rfl
@[simp] theorem BL16 : BL 16 = none := rfl
@[simp] theorem WR16 : WR 16 = false := rfl
@[simp] theorem OW16 : OW 16 = false := rfl
@[simp] theorem BL18 : BL 18 = none := rfl
@[simp] theorem WR18 : WR 18 = false := rfl
@[simp] theorem OW18 : OW 18 = false := rfl
@[simp] theorem BL19 : BL 19 = none := rfl
@[simp] theorem WR19 : WR 19 = false := rfl
@[simp] theorem OW19 : OW 19 = false := rfl
@[simp] theorem BL20 : BL 20 = none := rfl
@[simp] theorem WR20 : WR 20 = false := rfl
@[simp] theorem OW20 : OW 20 = false := rfl
@[simp] theorem BL21 : BL 21 = none := rfl
@[simp] theorem WR21 : WR 21 = false := rfl
@[simp] theorem OW21 : OW 21 = false := rfl
@[simp] theorem BL22 : BL 22 = none := rfl
@[simp] theorem WR22 : WR 22 = false := rfl
@[simp] theorem OW22 : OW 22 = false := rfl
@[simp] theorem BL23 : BL 23 = none := rfl
@[simp] theorem WR23 : WR 23 = false := rfl
@[simp] theorem OW23 : OW 23 = false := rfl
@[simp] theorem BL24 : BL 24 = none := rfl
@[simp] theorem WR24 : WR 24 = false := rfl
@[simp] theorem OW24 : OW 24 = false := rfl
@[simp] theorem BL25 : BL 25 = none := rfl
@[simp] theorem WR25 : WR 25 = false := rfl
@[simp] theorem OW25 : OW 25 = false := rfl
@[simp] theorem BL30 : BL 30 = none := rfl
@[simp] theorem WR30 : WR 30 = false := rfl
@[simp] theorem OW30 : OW 30 = false := rfl
@[simp] theorem BL31 : BL 31 = none := rfl
@[simp] theorem WR31 : WR 31 = false := rfl
@[simp] theorem OW31 : OW 31 = false := rfl
@[simp] theorem BL17 : BL 17 = some (2, 35, 35) := rfl
@[simp] theorem WR17 : WR 17 = false := rfl
@[simp] theorem OW17 : OW 17 = false := rfl
@[simp] theorem WRt3 : WR 1000003 = false := rfl
@[simp] theorem WRt4 : WR 1000004 = false := rfl
@[simp] theorem WRt22 : WR 1000022 = false := rfl
@[simp] theorem WRt24 : WR 1000024 = false := rfl
@[simp] theorem WRt35 : WR 1000035 = false := rfl
@[simp] theorem WRt37 : WR 1000037 = false := rfl
noncomputable def F_0 : FuncId → Option Func
  | 3 => some Try.f3
  | 4 => some Try.f4
  | 5 => some Try.f5
  | 6 => some Try.f6
  | 7 => some Try.f7
  | 8 => some Try.f8
  | 9 => some Try.f9
  | 10 => some Try.f10
  | 11 => some Try.f11
  | 12 => some Try.f12
  | 13 => some Try.f13
  | 14 => some Try.f14
  | 15 => some Try.f15
  | 16 => some Try.f16
  | 18 => some Try.f18
  | 19 => some Try.f19
  | 20 => some Try.f20
  | 21 => some Try.f21
  | 22 => some Try.f22
  | 23 => some Try.f23
  | 24 => some Try.f24
  | 25 => some Try.f25
  | 30 => some Try.f30
  | 31 => some Try.f31
  | f => none
noncomputable def F : FuncId → Option Func := F_0
theorem F3 : F 3 = some Try.f3 := rfl
theorem chk3 : ∀ c, Try.f3.body = some c → chk WR (K 3) Try.f3.ntmps c = true := by intro c h; cases h; decide +kernel
theorem F4 : F 4 = some Try.f4 := rfl
theorem chk4 : ∀ c, Try.f4.body = some c → chk WR (K 4) Try.f4.ntmps c = true := by intro c h; cases h; decide +kernel
theorem F5 : F 5 = some Try.f5 := rfl
theorem chk5 : ∀ c, Try.f5.body = some c → chk WR (K 5) Try.f5.ntmps c = true := by intro c h; cases h; decide +kernel
theorem F6 : F 6 = some Try.f6 := rfl
theorem chk6 : ∀ c, Try.f6.body = some c → chk WR (K 6) Try.f6.ntmps c = true := by intro c h; cases h; decide +kernel
theorem F7 : F 7 = some Try.f7 := rfl
theorem chk7 : ∀ c, Try.f7.body = some c → chk WR (K 7) Try.f7.ntmps c = true := by intro c h; cases h; decide +kernel
theorem F8 : F 8 = some Try.f8 := rfl
theorem chk8 : ∀ c, Try.f8.body = some c → chk WR (K 8) Try.f8.ntmps c = true := by intro c h; cases h; decide +kernel
theorem F9 : F 9 = some Try.f9 := rfl
theorem chk9 : ∀ c, Try.f9.body = some c → chk WR (K 9) Try.f9.ntmps c = true := by intro c h; cases h; decide +kernel
theorem F10 : F 10 = some Try.f10 := rfl
theorem chk10 : ∀ c, Try.f10.body = some c → chk WR (K 10) Try.f10.ntmps c = true := by intro c h; cases h; decide +kernel
theorem F11 : F 11 = some Try.f11 := rfl
theorem chk11 : ∀ c, Try.f11.body = some c → chk WR (K 11) Try.f11.ntmps c = true := by intro c h; cases h; decide +kernel
theorem F12 : F 12 = some Try.f12 := rfl
theorem chk12 : ∀ c, Try.f12.body = some c → chk WR (K 12) Try.f12.ntmps c = true := by intro c h; cases h; decide +kernel
theorem F13 : F 13 = some Try.f13 := rfl
theorem chk13 : ∀ c, Try.f13.body = some c → chk WR (K 13) Try.f13.ntmps c = true := by intro c h; cases h; decide +kernel
theorem F14 : F 14 = some Try.f14 := rfl
theorem chk14 : ∀ c, Try.f14.body = some c → chk WR (K 14) Try.f14.ntmps c = true := by intro c h; cases h; decide +kernel
theorem F15 : F 15 = some Try.f15 := rfl
theorem chk15 : ∀ c, Try.f15.body = some c → chk WR (K 15) Try.f15.ntmps c = true := by intro c h; cases h; decide +kernel
theorem F16 : F 16 = some Try.f16 := rfl
theorem chk16 : ∀ c, Try.f16.body = some c → chk WR (K 16) Try.f16.ntmps c = true := by intro c h; cases h; decide +kernel
theorem F18 : F 18 = some Try.f18 := rfl
theorem chk18 : ∀ c, Try.f18.body = some c → chk WR (K 18) Try.f18.ntmps c = true := by intro c h; cases h; decide +kernel
theorem F19 : F 19 = some Try.f19 := rfl
theorem chk19 : ∀ c, Try.f19.body = some c → chk WR (K 19) Try.f19.ntmps c = true := by intro c h; cases h; decide +kernel
theorem F20 : F 20 = some Try.f20 := rfl
theorem chk20 : ∀ c, Try.f20.body = some c → chk WR (K 20) Try.f20.ntmps c = true := by intro c h; cases h; decide +kernel
theorem F21 : F 21 = some Try.f21 := rfl
theorem chk21 : ∀ c, Try.f21.body = some c → chk WR (K 21) Try.f21.ntmps c = true := by intro c h; cases h; decide +kernel
theorem F22 : F 22 = some Try.f22 := rfl
theorem chk22 : ∀ c, Try.f22.body = some c → chk WR (K 22) Try.f22.ntmps c = true := by intro c h; cases h; decide +kernel
theorem F23 : F 23 = some Try.f23 := rfl
theorem chk23 : ∀ c, Try.f23.body = some c → chk WR (K 23) Try.f23.ntmps c = true := by intro c h; cases h; decide +kernel
theorem F24 : F 24 = some Try.f24 := rfl
theorem chk24 : ∀ c, Try.f24.body = some c → chk WR (K 24) Try.f24.ntmps c = true := by intro c h; cases h; decide +kernel
theorem F25 : F 25 = some Try.f25 := rfl
theorem chk25 : ∀ c, Try.f25.body = some c → chk WR (K 25) Try.f25.ntmps c = true := by intro c h; cases h; decide +kernel
theorem F30 : F 30 = some Try.f30 := rfl
theorem chk30 : ∀ c, Try.f30.body = some c → chk WR (K 30) Try.f30.ntmps c = true := by intro c h; cases h; decide +kernel
theorem F31 : F 31 = some Try.f31 := rfl
theorem chk31 : ∀ c, Try.f31.body = some c → chk WR (K 31) Try.f31.ntmps c = true := by intro c h; cases h; decide +kernel
theorem ent {f : FuncId} {fn : Func} (h : Try.prog.funcs[f]? = some fn) (hb : fn.body.isSome = true) (hn : (fn.name == "runtime.NumGoroutine") = false) : Enters Try.prog f := enters_mk h hb hn
theorem okF_0 : ∀ f fn, F_0 f = some fn → Try.prog.funcs[f]? = some fn ∧ Enters Try.prog f ∧ ∀ c, fn.body = some c → chk WR (K f) fn.ntmps c = true := by
  intro f fn h
  unfold F_0 at h
  split at h
  · cases h; exact ⟨Try.func3, ent Try.func3 rfl rfl, chk3⟩
  · cases h; exact ⟨Try.func4, ent Try.func4 rfl rfl, chk4⟩
  · cases h; exact ⟨Try.func5, ent Try.func5 rfl rfl, chk5⟩
  · cases h; exact ⟨Try.func6, ent Try.func6 rfl rfl, chk6⟩
  · cases h; exact ⟨Try.func7, ent Try.func7 rfl rfl, chk7⟩
  · cases h; exact ⟨Try.func8, ent Try.func8 rfl rfl, chk8⟩
  · cases h; exact ⟨Try.func9, ent Try.func9 rfl rfl, chk9⟩
  · cases h; exact ⟨Try.func10, ent Try.func10 rfl rfl, chk10⟩
  · cases h; exact ⟨Try.func11, ent Try.func11 rfl rfl, chk11⟩
  · cases h; exact ⟨Try.func12, ent Try.func12 rfl rfl, chk12⟩
  · cases h; exact ⟨Try.func13, ent Try.func13 rfl rfl, chk13⟩
  · cases h; exact ⟨Try.func14, ent Try.func14 rfl rfl, chk14⟩
  · cases h; exact ⟨Try.func15, ent Try.func15 rfl rfl, chk15⟩
  · cases h; exact ⟨Try.func16, ent Try.func16 rfl rfl, chk16⟩
  · cases h; exact ⟨Try.func18, ent Try.func18 rfl rfl, chk18⟩
  · cases h; exact ⟨Try.func19, ent Try.func19 rfl rfl, chk19⟩
  · cases h; exact ⟨Try.func20, ent Try.func20 rfl rfl, chk20⟩
  · cases h; exact ⟨Try.func21, ent Try.func21 rfl rfl, chk21⟩
  · cases h; exact ⟨Try.func22, ent Try.func22 rfl rfl, chk22⟩
  · cases h; exact ⟨Try.func23, ent Try.func23 rfl rfl, chk23⟩
  · cases h; exact ⟨Try.func24, ent Try.func24 rfl rfl, chk24⟩
  · cases h; exact ⟨Try.func25, ent Try.func25 rfl rfl, chk25⟩
  · cases h; exact ⟨Try.func30, ent Try.func30 rfl rfl, chk30⟩
  · cases h; exact ⟨Try.func31, ent Try.func31 rfl rfl, chk31⟩
  · cases h
end Go.Proofs.Ytllneakafpldjaa.Eng
