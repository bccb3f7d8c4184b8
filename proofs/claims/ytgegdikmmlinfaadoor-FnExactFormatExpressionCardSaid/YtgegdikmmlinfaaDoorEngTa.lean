/- The types, the functions and the loops' live slots that the laws reach, first part. No conditions. -/
import Derived.Test.YtgegdikmmlinfaaDoorEngS
import Derived.Test.YtgegdikmmlinfaaDoorProg
import Derived.KernelRfl
import Derived.Test.YtgegdikmmlinfaaDoorShelf
namespace Go.Proofs.YtgegdikmmlinfaaDoor.Eng
open Go Go.Proofs
set_option maxRecDepth 100000
def T : Tab
  | 3 => some ⟨.int .i64, 1, 8, [.int .i64 0], true⟩
  | 4 => some ⟨.bool, 1, 1, [.bool false], true⟩
  | 9 => some ⟨.str, 1, 16, [.string ByteArray.empty], true⟩
  | 22 => some ⟨(.slice 35), 1, 24, [.slice none 0 0], false⟩
  | 26 => some ⟨(.slice 33), 1, 24, [.slice none 0 0], false⟩
  | 33 => some ⟨(.struct [(0, 1, false), (1, 1, false)]), 2, 16, [.int .i64 0, .int .i64 0], true⟩
  | 35 => some ⟨(.struct [(0, 1, false), (1, 1, false)]), 2, 16, [.int .i64 0, .int .i64 0], true⟩
  | 42 => some ⟨(.slice 9), 1, 24, [.slice none 0 0], false⟩
  | 43 => some ⟨(.slice 4), 1, 24, [.slice none 0 0], false⟩
  | _ => none
theorem T3 : T 3 = some ⟨.int .i64, 1, 8, [.int .i64 0], true⟩ := rfl
theorem ok3 : TiOk Tryd.prog 3 ⟨.int .i64, 1, 8, [.int .i64 0], true⟩ := ⟨(by kernel_rfl : Tryd.prog.underlying 3 = _), (TiOk.of_info (z := (.int .i64 0)) (by kernel_rfl) rfl), rfl, by decide, (fun h => absurd h (by decide))⟩
theorem T4 : T 4 = some ⟨.bool, 1, 1, [.bool false], true⟩ := rfl
theorem ok4 : TiOk Tryd.prog 4 ⟨.bool, 1, 1, [.bool false], true⟩ := ⟨(by kernel_rfl : Tryd.prog.underlying 4 = _), (TiOk.of_info (z := (.bool false)) (by kernel_rfl) rfl), rfl, by decide, (fun h => absurd h (by decide))⟩
theorem T9 : T 9 = some ⟨.str, 1, 16, [.string ByteArray.empty], true⟩ := rfl
theorem ok9 : TiOk Tryd.prog 9 ⟨.str, 1, 16, [.string ByteArray.empty], true⟩ := ⟨(by kernel_rfl : Tryd.prog.underlying 9 = _), (TiOk.of_info (z := (.string ByteArray.empty)) (by kernel_rfl) rfl), rfl, by decide, (fun h => absurd h (by decide))⟩
theorem T22 : T 22 = some ⟨(.slice 35), 1, 24, [.slice none 0 0], false⟩ := rfl
theorem ok22 : TiOk Tryd.prog 22 ⟨(.slice 35), 1, 24, [.slice none 0 0], false⟩ := ⟨(by kernel_rfl : Tryd.prog.underlying 22 = _), (TiOk.of_info (z := (.slice none 0 0)) (by kernel_rfl) rfl), rfl, by decide, (fun h => absurd h (by decide))⟩
theorem T26 : T 26 = some ⟨(.slice 33), 1, 24, [.slice none 0 0], false⟩ := rfl
theorem ok26 : TiOk Tryd.prog 26 ⟨(.slice 33), 1, 24, [.slice none 0 0], false⟩ := ⟨(by kernel_rfl : Tryd.prog.underlying 26 = _), (TiOk.of_info (z := (.slice none 0 0)) (by kernel_rfl) rfl), rfl, by decide, (fun h => absurd h (by decide))⟩
theorem T33 : T 33 = some ⟨(.struct [(0, 1, false), (1, 1, false)]), 2, 16, [.int .i64 0, .int .i64 0], true⟩ := rfl
theorem ok33 : TiOk Tryd.prog 33 ⟨(.struct [(0, 1, false), (1, 1, false)]), 2, 16, [.int .i64 0, .int .i64 0], true⟩ := ⟨TiOk.of_struct Tryd.underlying33 (by kernel_rfl), (TiOk.of_info (z := (.agg #[.int .i64 0, .int .i64 0])) (by kernel_rfl) rfl), rfl, by decide, (fun _ => by kernel_rfl)⟩
theorem T35 : T 35 = some ⟨(.struct [(0, 1, false), (1, 1, false)]), 2, 16, [.int .i64 0, .int .i64 0], true⟩ := rfl
theorem ok35 : TiOk Tryd.prog 35 ⟨(.struct [(0, 1, false), (1, 1, false)]), 2, 16, [.int .i64 0, .int .i64 0], true⟩ := ⟨TiOk.of_struct Tryd.underlying35 (by kernel_rfl), (TiOk.of_info (z := (.agg #[.int .i64 0, .int .i64 0])) (by kernel_rfl) rfl), rfl, by decide, (fun _ => by kernel_rfl)⟩
theorem T42 : T 42 = some ⟨(.slice 9), 1, 24, [.slice none 0 0], false⟩ := rfl
theorem ok42 : TiOk Tryd.prog 42 ⟨(.slice 9), 1, 24, [.slice none 0 0], false⟩ := ⟨(by kernel_rfl : Tryd.prog.underlying 42 = _), (TiOk.of_info (z := (.slice none 0 0)) (by kernel_rfl) rfl), rfl, by decide, (fun h => absurd h (by decide))⟩
theorem T43 : T 43 = some ⟨(.slice 4), 1, 24, [.slice none 0 0], false⟩ := rfl
theorem ok43 : TiOk Tryd.prog 43 ⟨(.slice 4), 1, 24, [.slice none 0 0], false⟩ := ⟨(by kernel_rfl : Tryd.prog.underlying 43 = _), (TiOk.of_info (z := (.slice none 0 0)) (by kernel_rfl) rfl), rfl, by decide, (fun h => absurd h (by decide))⟩
theorem tabOk : TabOk Tryd.prog T := by
  intro t i h
  unfold T at h
  split at h
  · cases h; exact ok3
  · cases h; exact ok4
  · cases h; exact ok9
  · cases h; exact ok22
  · cases h; exact ok26
  · cases h; exact ok33
  · cases h; exact ok35
  · cases h; exact ok42
  · cases h; exact ok43
  · cases h
set_option maxHeartbeats 1000000
def WR (f : FuncId) : Bool := f == 999999
def OW (f : FuncId) : Bool := f == 999999
def K : FuncId → Nat → List Nat
  | 6, 0 => [0, 3, 4]
  | 8, 0 => [0, 1, 5]
  | 9, 0 => [0, 3, 4]
  | 12, 0 => [3, 9, 10, 11]
  | 13, 0 => [3, 4, 13, 14, 15]
  | 13, 1029 => [5, 29800]
  | _, _ => []
@[simp] theorem K6_0 : K 6 0 = [0, 3, 4] := rfl
@[simp] theorem K8_0 : K 8 0 = [0, 1, 5] := rfl
@[simp] theorem K9_0 : K 9 0 = [0, 3, 4] := rfl
@[simp] theorem K12_0 : K 12 0 = [3, 9, 10, 11] := rfl
@[simp] theorem K13_0 : K 13 0 = [3, 4, 13, 14, 15] := rfl
@[simp] theorem K8_1006 : K 8 1006 = [] := rfl
@[simp] theorem K10_1008 : K 10 1008 = [] := rfl
@[simp] theorem K13_1007 : K 13 1007 = [] := rfl
@[simp] theorem K13_1024 : K 13 1024 = [] := rfl
@[simp] theorem K13_1026 : K 13 1026 = [] := rfl
@[simp] theorem K13_1028 : K 13 1028 = [] := rfl
@[simp] theorem K13_1029 : K 13 1029 = [5, 29800] := rfl
@[simp] theorem K16_1005 : K 16 1005 = [] := rfl
@[simp] theorem WR3 : WR 3 = false := rfl
@[simp] theorem OW3 : OW 3 = false := rfl
@[simp] theorem WR4 : WR 4 = false := rfl
@[simp] theorem OW4 : OW 4 = false := rfl
@[simp] theorem WR5 : WR 5 = false := rfl
@[simp] theorem OW5 : OW 5 = false := rfl
@[simp] theorem WR6 : WR 6 = false := rfl
@[simp] theorem OW6 : OW 6 = false := rfl
@[simp] theorem WR7 : WR 7 = false := rfl
@[simp] theorem OW7 : OW 7 = false := rfl
@[simp] theorem WR8 : WR 8 = false := rfl
@[simp] theorem OW8 : OW 8 = false := rfl
@[simp] theorem WR9 : WR 9 = false := rfl
@[simp] theorem OW9 : OW 9 = false := rfl
@[simp] theorem WR10 : WR 10 = false := rfl
@[simp] theorem OW10 : OW 10 = false := rfl
@[simp] theorem WR11 : WR 11 = false := rfl
@[simp] theorem OW11 : OW 11 = false := rfl
@[simp] theorem WR12 : WR 12 = false := rfl
@[simp] theorem OW12 : OW 12 = false := rfl
@[simp] theorem WR13 : WR 13 = false := rfl
@[simp] theorem OW13 : OW 13 = false := rfl
@[simp] theorem WR14 : WR 14 = false := rfl
@[simp] theorem OW14 : OW 14 = false := rfl
@[simp] theorem WR15 : WR 15 = false := rfl
@[simp] theorem OW15 : OW 15 = false := rfl
@[simp] theorem WR16 : WR 16 = false := rfl
@[simp] theorem OW16 : OW 16 = false := rfl
@[simp] theorem WR17 : WR 17 = false := rfl
@[simp] theorem OW17 : OW 17 = false := rfl
@[simp] theorem WR18 : WR 18 = false := rfl
@[simp] theorem OW18 : OW 18 = false := rfl
@[simp] theorem WR19 : WR 19 = false := rfl
@[simp] theorem OW19 : OW 19 = false := rfl
@[simp] theorem WR20 : WR 20 = false := rfl
@[simp] theorem OW20 : OW 20 = false := rfl
@[simp] theorem WR22 : WR 22 = false := rfl
@[simp] theorem OW22 : OW 22 = false := rfl
@[simp] theorem WR23 : WR 23 = false := rfl
@[simp] theorem OW23 : OW 23 = false := rfl
@[simp] theorem WR24 : WR 24 = false := rfl
@[simp] theorem OW24 : OW 24 = false := rfl
@[simp] theorem WR21 : WR 21 = false := rfl
@[simp] theorem OW21 : OW 21 = false := rfl
@[simp] theorem WRt3 : WR 1000003 = false := rfl
@[simp] theorem WRt4 : WR 1000004 = false := rfl
@[simp] theorem WRt9 : WR 1000009 = false := rfl
@[simp] theorem WRt22 : WR 1000022 = false := rfl
@[simp] theorem WRt26 : WR 1000026 = false := rfl
@[simp] theorem WRt33 : WR 1000033 = false := rfl
@[simp] theorem WRt35 : WR 1000035 = false := rfl
@[simp] theorem WRt42 : WR 1000042 = false := rfl
@[simp] theorem WRt43 : WR 1000043 = false := rfl
noncomputable def F_0 : FuncId → Option Func
  | 3 => some Tryd.f3
  | 4 => some Tryd.f4
  | 5 => some Tryd.f5
  | 6 => some Tryd.f6
  | 7 => some Tryd.f7
  | 8 => some Tryd.f8
  | 9 => some Tryd.f9
  | 10 => some Tryd.f10
  | 11 => some Tryd.f11
  | 12 => some Tryd.f12
  | 13 => some Tryd.f13
  | 14 => some Tryd.f14
  | 15 => some Tryd.f15
  | 16 => some Tryd.f16
  | 17 => some Tryd.f17
  | 18 => some Tryd.f18
  | 19 => some Tryd.f19
  | 20 => some Tryd.f20
  | 22 => some Tryd.f22
  | 23 => some Tryd.f23
  | 24 => some Tryd.f24
  | f => none
noncomputable def F : FuncId → Option Func := F_0
theorem F3 : F 3 = some Tryd.f3 := rfl
theorem chk3 : ∀ c, Tryd.f3.body = some c → chk WR (K 3) Tryd.f3.ntmps c = true := by intro c h; cases h; decide +kernel
theorem F4 : F 4 = some Tryd.f4 := rfl
theorem chk4 : ∀ c, Tryd.f4.body = some c → chk WR (K 4) Tryd.f4.ntmps c = true := by intro c h; cases h; decide +kernel
theorem F5 : F 5 = some Tryd.f5 := rfl
theorem chk5 : ∀ c, Tryd.f5.body = some c → chk WR (K 5) Tryd.f5.ntmps c = true := by intro c h; cases h; decide +kernel
theorem F6 : F 6 = some Tryd.f6 := rfl
theorem chk6 : ∀ c, Tryd.f6.body = some c → chk WR (K 6) Tryd.f6.ntmps c = true := by intro c h; cases h; decide +kernel
theorem F7 : F 7 = some Tryd.f7 := rfl
theorem chk7 : ∀ c, Tryd.f7.body = some c → chk WR (K 7) Tryd.f7.ntmps c = true := by intro c h; cases h; decide +kernel
theorem F8 : F 8 = some Tryd.f8 := rfl
theorem chk8 : ∀ c, Tryd.f8.body = some c → chk WR (K 8) Tryd.f8.ntmps c = true := by intro c h; cases h; decide +kernel
theorem F9 : F 9 = some Tryd.f9 := rfl
theorem chk9 : ∀ c, Tryd.f9.body = some c → chk WR (K 9) Tryd.f9.ntmps c = true := by intro c h; cases h; decide +kernel
theorem F10 : F 10 = some Tryd.f10 := rfl
theorem chk10 : ∀ c, Tryd.f10.body = some c → chk WR (K 10) Tryd.f10.ntmps c = true := by intro c h; cases h; decide +kernel
theorem F11 : F 11 = some Tryd.f11 := rfl
theorem chk11 : ∀ c, Tryd.f11.body = some c → chk WR (K 11) Tryd.f11.ntmps c = true := by intro c h; cases h; decide +kernel
theorem F12 : F 12 = some Tryd.f12 := rfl
theorem chk12 : ∀ c, Tryd.f12.body = some c → chk WR (K 12) Tryd.f12.ntmps c = true := by intro c h; cases h; decide +kernel
theorem F13 : F 13 = some Tryd.f13 := rfl
theorem chk13 : ∀ c, Tryd.f13.body = some c → chk WR (K 13) Tryd.f13.ntmps c = true := by intro c h; cases h; decide +kernel
theorem F14 : F 14 = some Tryd.f14 := rfl
theorem chk14 : ∀ c, Tryd.f14.body = some c → chk WR (K 14) Tryd.f14.ntmps c = true := by intro c h; cases h; decide +kernel
theorem F15 : F 15 = some Tryd.f15 := rfl
theorem chk15 : ∀ c, Tryd.f15.body = some c → chk WR (K 15) Tryd.f15.ntmps c = true := by intro c h; cases h; decide +kernel
theorem F16 : F 16 = some Tryd.f16 := rfl
theorem chk16 : ∀ c, Tryd.f16.body = some c → chk WR (K 16) Tryd.f16.ntmps c = true := by intro c h; cases h; decide +kernel
theorem F17 : F 17 = some Tryd.f17 := rfl
theorem chk17 : ∀ c, Tryd.f17.body = some c → chk WR (K 17) Tryd.f17.ntmps c = true := by intro c h; cases h; decide +kernel
theorem F18 : F 18 = some Tryd.f18 := rfl
theorem chk18 : ∀ c, Tryd.f18.body = some c → chk WR (K 18) Tryd.f18.ntmps c = true := by intro c h; cases h; decide +kernel
theorem F19 : F 19 = some Tryd.f19 := rfl
theorem chk19 : ∀ c, Tryd.f19.body = some c → chk WR (K 19) Tryd.f19.ntmps c = true := by intro c h; cases h; decide +kernel
theorem F20 : F 20 = some Tryd.f20 := rfl
theorem chk20 : ∀ c, Tryd.f20.body = some c → chk WR (K 20) Tryd.f20.ntmps c = true := by intro c h; cases h; decide +kernel
theorem F22 : F 22 = some Tryd.f22 := rfl
theorem chk22 : ∀ c, Tryd.f22.body = some c → chk WR (K 22) Tryd.f22.ntmps c = true := by intro c h; cases h; decide +kernel
theorem F23 : F 23 = some Tryd.f23 := rfl
theorem chk23 : ∀ c, Tryd.f23.body = some c → chk WR (K 23) Tryd.f23.ntmps c = true := by intro c h; cases h; decide +kernel
theorem F24 : F 24 = some Tryd.f24 := rfl
theorem chk24 : ∀ c, Tryd.f24.body = some c → chk WR (K 24) Tryd.f24.ntmps c = true := by intro c h; cases h; decide +kernel
theorem ent {f : FuncId} {fn : Func} (h : Tryd.prog.funcs[f]? = some fn) (hb : fn.body.isSome = true) (hn : (fn.name == "runtime.NumGoroutine") = false) : Enters Tryd.prog f := enters_mk h hb hn
theorem okF_0 : ∀ f fn, F_0 f = some fn → Tryd.prog.funcs[f]? = some fn ∧ Enters Tryd.prog f ∧ ∀ c, fn.body = some c → chk WR (K f) fn.ntmps c = true := by
  intro f fn h
  unfold F_0 at h
  split at h
  · cases h; exact ⟨Tryd.func3, ent Tryd.func3 rfl rfl, chk3⟩
  · cases h; exact ⟨Tryd.func4, ent Tryd.func4 rfl rfl, chk4⟩
  · cases h; exact ⟨Tryd.func5, ent Tryd.func5 rfl rfl, chk5⟩
  · cases h; exact ⟨Tryd.func6, ent Tryd.func6 rfl rfl, chk6⟩
  · cases h; exact ⟨Tryd.func7, ent Tryd.func7 rfl rfl, chk7⟩
  · cases h; exact ⟨Tryd.func8, ent Tryd.func8 rfl rfl, chk8⟩
  · cases h; exact ⟨Tryd.func9, ent Tryd.func9 rfl rfl, chk9⟩
  · cases h; exact ⟨Tryd.func10, ent Tryd.func10 rfl rfl, chk10⟩
  · cases h; exact ⟨Tryd.func11, ent Tryd.func11 rfl rfl, chk11⟩
  · cases h; exact ⟨Tryd.func12, ent Tryd.func12 rfl rfl, chk12⟩
  · cases h; exact ⟨Tryd.func13, ent Tryd.func13 rfl rfl, chk13⟩
  · cases h; exact ⟨Tryd.func14, ent Tryd.func14 rfl rfl, chk14⟩
  · cases h; exact ⟨Tryd.func15, ent Tryd.func15 rfl rfl, chk15⟩
  · cases h; exact ⟨Tryd.func16, ent Tryd.func16 rfl rfl, chk16⟩
  · cases h; exact ⟨Tryd.func17, ent Tryd.func17 rfl rfl, chk17⟩
  · cases h; exact ⟨Tryd.func18, ent Tryd.func18 rfl rfl, chk18⟩
  · cases h; exact ⟨Tryd.func19, ent Tryd.func19 rfl rfl, chk19⟩
  · cases h; exact ⟨Tryd.func20, ent Tryd.func20 rfl rfl, chk20⟩
  · cases h; exact ⟨Tryd.func22, ent Tryd.func22 rfl rfl, chk22⟩
  · cases h; exact ⟨Tryd.func23, ent Tryd.func23 rfl rfl, chk23⟩
  · cases h; exact ⟨Tryd.func24, ent Tryd.func24 rfl rfl, chk24⟩
  · cases h
end Go.Proofs.YtgegdikmmlinfaaDoor.Eng
