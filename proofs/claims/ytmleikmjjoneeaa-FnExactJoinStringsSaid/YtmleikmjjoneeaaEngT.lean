/- The types, the functions and the loops' live slots that the laws reach, and that they are what the program has. No conditions. -/
import Derived.Test.YtmleikmjjoneeaaEngTa
namespace Go.Proofs.Ytmleikmjjoneeaa.Eng
open Go Go.Proofs
set_option maxRecDepth 100000
noncomputable def R3_0 : Array Oper := opsAt Try.f3 [0]
noncomputable def R3_1 : Array Oper := opsAt Try.f3 [1, 0, 0]
noncomputable def R3_2 : Array Oper := opsAt Try.f3 [1, 0, 1, 0, 0]
noncomputable def R3_3 : Array Oper := opsAt Try.f3 [1, 1, 0]
noncomputable def R3_4 : Array Oper := opsAt Try.f3 [1, 1, 1, 0]
noncomputable def R3_5 : Array Oper := opsAt Try.f3 [1, 1, 1, 1, 0, 0]
noncomputable def R3_6 : Array Oper := opsAt Try.f3 [1, 1, 1, 1, 0, 1, 0, 0]
noncomputable def R3_7 : Array Oper := opsAt Try.f3 [1, 1, 1, 1, 1, 0]
noncomputable def R3_8 : Array Oper := opsAt Try.f3 [1, 1, 1, 1, 1, 1, 0]
noncomputable def R3_9 : Array Oper := opsAt Try.f3 [1, 1, 1, 1, 1, 1, 1, 0]
noncomputable def R3_10 : Array Oper := opsAt Try.f3 [1, 1, 1, 1, 1, 1, 1, 1, 0, 0]
noncomputable def R3_11 : Array Oper := opsAt Try.f3 [1, 1, 1, 1, 1, 1, 1, 1, 0, 1, 0, 0]
noncomputable def R3_12 : Array Oper := opsAt Try.f3 [1, 1, 1, 1, 1, 1, 1, 1, 1, 0, 0]
noncomputable def R3_13 : Array Oper := opsAt Try.f3 [1, 1, 1, 1, 1, 1, 1, 1, 1, 0, 1, 0, 0]
noncomputable def R3_14 : Array Oper := opsAt Try.f3 [1, 1, 1, 1, 1, 1, 1, 1, 1, 1, 0]
theorem code3 : Try.f3.body = some (.seq (.region 0 R3_0 false) (.seq (.seq (.region 1 R3_1 false) (.cond (.tmp 13) (.seq (.region 2 R3_2 false) .ret) .skip)) (.seq (.region 3 R3_3 false) (.seq (.region 4 R3_4 false) (.seq (.seq (.region 5 R3_5 false) (.cond (.tmp 18) (.seq (.region 6 R3_6 false) .ret) .skip)) (.seq (.region 7 R3_7 false) (.seq (.region 8 R3_8 false) (.seq (.region 9 R3_9 false) (.seq (.seq (.region 10 R3_10 false) (.cond (.tmp 41) (.seq (.region 11 R3_11 false) .ret) .skip)) (.seq (.seq (.region 12 R3_12 false) (.cond (.tmp 46) (.seq (.region 13 R3_13 false) .ret) .skip)) (.seq (.region 14 R3_14 false) .ret))))))))))) := by kernel_rfl
noncomputable def R4_0 : Array Oper := opsAt Try.f4 [0]
noncomputable def R4_1 : Array Oper := opsAt Try.f4 [1, 0]
noncomputable def R4_2 : Array Oper := opsAt Try.f4 [1, 1, 0, 0]
noncomputable def R4_3 : Array Oper := opsAt Try.f4 [1, 1, 0, 1, 0, 0]
noncomputable def R4_4 : Array Oper := opsAt Try.f4 [1, 1, 1, 0, 0]
noncomputable def R4_5 : Array Oper := opsAt Try.f4 [1, 1, 1, 0, 1, 0, 0, 0, 0]
noncomputable def R4_7 : Array Oper := opsAt Try.f4 [1, 1, 1, 0, 1, 0, 0, 1, 0, 0, 0]
noncomputable def R4_8 : Array Oper := opsAt Try.f4 [1, 1, 1, 0, 1, 0, 0, 1, 0, 0, 1, 0]
noncomputable def R4_9 : Array Oper := opsAt Try.f4 [1, 1, 1, 0, 1, 0, 0, 1, 0, 0, 1, 1, 0, 0]
noncomputable def R4_6 : Array Oper := opsAt Try.f4 [1, 1, 1, 0, 1, 0, 0, 1, 1]
noncomputable def L4_0 : Code := .seq (.seq (.region 5 R4_5 false) (.cond (.tmp 15) .skip (.exit 0))) (.seq (.block 1 (.seq (.region 7 R4_7 false) (.seq (.region 8 R4_8 false) (.cond (.tmp 26) (.seq (.region 9 R4_9 false) .ret) .skip)))) (.region 6 R4_6 false))
theorem lpL4_0 : loops L4_0 = 0 := rfl
noncomputable def R4_10 : Array Oper := opsAt Try.f4 [1, 1, 1, 1, 0]
noncomputable def M4_0 : Code := .seq (.region 10 R4_10 false) .ret
theorem lpM4_0 : loops M4_0 = 0 := rfl
theorem code4 : Try.f4.body = some (.seq (.region 0 R4_0 false) (.seq (.region 1 R4_1 false) (.seq (.seq (.region 2 R4_2 false) (.cond (.tmp 11) (.seq (.region 3 R4_3 false) .ret) .skip)) (.seq (.seq (.region 4 R4_4 false) (.block 0 (.loop L4_0))) M4_0)))) := by kernel_rfl
noncomputable def R5_0 : Array Oper := opsAt Try.f5 [0]
noncomputable def R5_1 : Array Oper := opsAt Try.f5 [1, 0, 0]
noncomputable def R5_2 : Array Oper := opsAt Try.f5 [1, 0, 1, 0, 0]
noncomputable def R5_3 : Array Oper := opsAt Try.f5 [1, 1, 0]
noncomputable def R5_4 : Array Oper := opsAt Try.f5 [1, 1, 1, 0, 0]
noncomputable def R5_5 : Array Oper := opsAt Try.f5 [1, 1, 1, 0, 1, 0, 0, 0, 0]
noncomputable def R5_7 : Array Oper := opsAt Try.f5 [1, 1, 1, 0, 1, 0, 0, 1, 0, 0, 0, 0]
noncomputable def R5_8 : Array Oper := opsAt Try.f5 [1, 1, 1, 0, 1, 0, 0, 1, 0, 0, 0, 1, 0, 0]
noncomputable def R5_9 : Array Oper := opsAt Try.f5 [1, 1, 1, 0, 1, 0, 0, 1, 0, 0, 1, 0, 0]
noncomputable def R5_10 : Array Oper := opsAt Try.f5 [1, 1, 1, 0, 1, 0, 0, 1, 0, 0, 1, 0, 1, 0]
noncomputable def R5_11 : Array Oper := opsAt Try.f5 [1, 1, 1, 0, 1, 0, 0, 1, 0, 0, 1, 1, 0]
noncomputable def R5_12 : Array Oper := opsAt Try.f5 [1, 1, 1, 0, 1, 0, 0, 1, 0, 0, 1, 1, 1, 0]
noncomputable def R5_13 : Array Oper := opsAt Try.f5 [1, 1, 1, 0, 1, 0, 0, 1, 0, 0, 1, 1, 1, 1, 0, 0]
noncomputable def R5_6 : Array Oper := opsAt Try.f5 [1, 1, 1, 0, 1, 0, 0, 1, 1]
noncomputable def L5_0 : Code := .seq (.seq (.region 5 R5_5 false) (.cond (.tmp 19) .skip (.exit 0))) (.seq (.block 1 (.seq (.seq (.region 7 R5_7 true) (.cond (.tmp 28) (.seq (.region 8 R5_8 false) .ret) .skip)) (.seq (.seq (.region 9 R5_9 false) (.cond (.tmp 30) (.region 10 R5_10 false) .skip)) (.seq (.region 11 R5_11 false) (.seq (.region 12 R5_12 false) (.cond (.tmp 42) (.seq (.region 13 R5_13 false) .ret) .skip)))))) (.region 6 R5_6 false))
theorem lpL5_0 : loops L5_0 = 0 := rfl
noncomputable def R5_14 : Array Oper := opsAt Try.f5 [1, 1, 1, 1, 0]
noncomputable def M5_0 : Code := .seq (.region 14 R5_14 false) .ret
theorem lpM5_0 : loops M5_0 = 0 := rfl
theorem code5 : Try.f5.body = some (.seq (.region 0 R5_0 false) (.seq (.seq (.region 1 R5_1 false) (.cond (.tmp 15) (.seq (.region 2 R5_2 false) .ret) .skip)) (.seq (.region 3 R5_3 false) (.seq (.seq (.region 4 R5_4 false) (.block 0 (.loop L5_0))) M5_0)))) := by kernel_rfl
noncomputable def R6_0 : Array Oper := opsAt Try.f6 [0]
noncomputable def R6_1 : Array Oper := opsAt Try.f6 [1, 0]
noncomputable def R6_2 : Array Oper := opsAt Try.f6 [1, 1, 0, 0]
noncomputable def R6_3 : Array Oper := opsAt Try.f6 [1, 1, 0, 1, 0, 0, 0, 0]
noncomputable def R6_5 : Array Oper := opsAt Try.f6 [1, 1, 0, 1, 0, 0, 1, 0, 0]
noncomputable def R6_4 : Array Oper := opsAt Try.f6 [1, 1, 0, 1, 0, 0, 1, 1]
noncomputable def L6_0 : Code := .seq (.seq (.region 3 R6_3 false) (.cond (.tmp 11) .skip (.exit 0))) (.seq (.block 1 (.region 5 R6_5 false)) (.region 4 R6_4 false))
theorem lpL6_0 : loops L6_0 = 0 := rfl
noncomputable def R6_6 : Array Oper := opsAt Try.f6 [1, 1, 1, 0]
noncomputable def M6_0 : Code := .seq (.region 6 R6_6 false) .ret
theorem lpM6_0 : loops M6_0 = 0 := rfl
theorem code6 : Try.f6.body = some (.seq (.region 0 R6_0 false) (.seq (.region 1 R6_1 false) (.seq (.seq (.region 2 R6_2 false) (.block 0 (.loop L6_0))) M6_0))) := by kernel_rfl
noncomputable def R7_0 : Array Oper := opsAt Try.f7 [0]
noncomputable def R7_1 : Array Oper := opsAt Try.f7 [1, 0, 0]
noncomputable def R7_2 : Array Oper := opsAt Try.f7 [1, 0, 1, 0, 0]
noncomputable def R7_3 : Array Oper := opsAt Try.f7 [1, 1, 0]
noncomputable def R7_4 : Array Oper := opsAt Try.f7 [1, 1, 1, 0, 0]
noncomputable def R7_5 : Array Oper := opsAt Try.f7 [1, 1, 1, 0, 1, 0, 0, 0]
noncomputable def R7_6 : Array Oper := opsAt Try.f7 [1, 1, 1, 0, 1, 0, 0, 1, 1, 0, 0, 0]
noncomputable def R7_7 : Array Oper := opsAt Try.f7 [1, 1, 1, 0, 1, 0, 0, 1, 1, 0, 0, 1, 0]
noncomputable def R7_8 : Array Oper := opsAt Try.f7 [1, 1, 1, 0, 1, 0, 0, 1, 1, 0, 0, 1, 1, 0]
noncomputable def R7_9 : Array Oper := opsAt Try.f7 [1, 1, 1, 0, 1, 0, 0, 1, 1, 0, 0, 1, 1, 1, 0, 0]
noncomputable def R7_10 : Array Oper := opsAt Try.f7 [1, 1, 1, 0, 1, 0, 0, 1, 1, 1]
noncomputable def L7_0 : Code := .seq (.region 5 R7_5 false) (.seq (.cond (.tmp 23) .skip (.exit 0)) (.seq (.block 1 (.seq (.region 6 R7_6 false) (.seq (.region 7 R7_7 false) (.seq (.region 8 R7_8 false) (.cond (.tmp 36) (.seq (.region 9 R7_9 false) .ret) .skip))))) (.region 10 R7_10 false)))
theorem lpL7_0 : loops L7_0 = 0 := rfl
noncomputable def R7_11 : Array Oper := opsAt Try.f7 [1, 1, 1, 1, 0]
noncomputable def M7_0 : Code := .seq (.region 11 R7_11 false) .ret
theorem lpM7_0 : loops M7_0 = 0 := rfl
theorem code7 : Try.f7.body = some (.seq (.region 0 R7_0 false) (.seq (.seq (.region 1 R7_1 false) (.cond (.tmp 16) (.seq (.region 2 R7_2 false) .ret) .skip)) (.seq (.region 3 R7_3 false) (.seq (.seq (.region 4 R7_4 false) (.block 0 (.loop L7_0))) M7_0)))) := by kernel_rfl
noncomputable def R8_0 : Array Oper := opsAt Try.f8 [0]
noncomputable def R8_1 : Array Oper := opsAt Try.f8 [1, 0, 0]
noncomputable def R8_2 : Array Oper := opsAt Try.f8 [1, 0, 1, 0, 0]
noncomputable def R8_3 : Array Oper := opsAt Try.f8 [1, 1, 0, 0]
noncomputable def R8_4 : Array Oper := opsAt Try.f8 [1, 1, 0, 1, 0, 0, 0, 0]
noncomputable def R8_6 : Array Oper := opsAt Try.f8 [1, 1, 0, 1, 0, 0, 1, 0, 0, 0]
noncomputable def R8_7 : Array Oper := opsAt Try.f8 [1, 1, 0, 1, 0, 0, 1, 0, 0, 1, 0, 0]
noncomputable def R8_5 : Array Oper := opsAt Try.f8 [1, 1, 0, 1, 0, 0, 1, 1]
noncomputable def L8_0 : Code := .seq (.seq (.region 4 R8_4 false) (.cond (.tmp 14) .skip (.exit 0))) (.seq (.block 1 (.seq (.region 6 R8_6 true) (.cond (.tmp 25) (.seq (.region 7 R8_7 false) .ret) .skip))) (.region 5 R8_5 false))
theorem lpL8_0 : loops L8_0 = 0 := rfl
noncomputable def R8_8 : Array Oper := opsAt Try.f8 [1, 1, 1, 0]
noncomputable def M8_0 : Code := .seq (.region 8 R8_8 false) .ret
theorem lpM8_0 : loops M8_0 = 0 := rfl
theorem code8 : Try.f8.body = some (.seq (.region 0 R8_0 false) (.seq (.seq (.region 1 R8_1 false) (.cond (.tmp 10) (.seq (.region 2 R8_2 false) .ret) .skip)) (.seq (.seq (.region 3 R8_3 false) (.block 0 (.loop L8_0))) M8_0))) := by kernel_rfl
noncomputable def R9_0 : Array Oper := opsAt Try.f9 [0]
noncomputable def R9_1 : Array Oper := opsAt Try.f9 [1, 0, 0]
noncomputable def R9_2 : Array Oper := opsAt Try.f9 [1, 0, 1, 0, 0, 0, 0]
noncomputable def R9_4 : Array Oper := opsAt Try.f9 [1, 0, 1, 0, 0, 1, 0, 0, 0]
noncomputable def R9_5 : Array Oper := opsAt Try.f9 [1, 0, 1, 0, 0, 1, 0, 0, 1, 0, 0]
noncomputable def R9_3 : Array Oper := opsAt Try.f9 [1, 0, 1, 0, 0, 1, 1]
noncomputable def L9_0 : Code := .seq (.seq (.region 2 R9_2 false) (.cond (.tmp 9) .skip (.exit 0))) (.seq (.block 1 (.seq (.region 4 R9_4 false) (.cond (.tmp 16) (.seq (.region 5 R9_5 false) .ret) .skip))) (.region 3 R9_3 false))
theorem lpL9_0 : loops L9_0 = 0 := rfl
noncomputable def R9_6 : Array Oper := opsAt Try.f9 [1, 1, 0]
noncomputable def M9_0 : Code := .seq (.region 6 R9_6 false) .ret
theorem lpM9_0 : loops M9_0 = 0 := rfl
theorem code9 : Try.f9.body = some (.seq (.region 0 R9_0 false) (.seq (.seq (.region 1 R9_1 false) (.block 0 (.loop L9_0))) M9_0)) := by kernel_rfl
noncomputable def R10_0 : Array Oper := opsAt Try.f10 [0]
noncomputable def R10_1 : Array Oper := opsAt Try.f10 [1, 0]
theorem code10 : Try.f10.body = some (.seq (.region 0 R10_0 false) (.seq (.region 1 R10_1 false) .ret)) := by kernel_rfl
def sc11 : List (List V) → Option (List ByteArray)
  | [] => some []
  | [.c (.string s)] :: l => match sc11 l with
    | some r => some (s :: r)
    | none => none
  | _ => none
theorem sc11_ok {w : World} {Pf : Pfs} {ι : Plc} : ∀ (l : List (List V)) (xs : List ByteArray) (a : Addr), sc11 l = some xs → RepE w Pf ι 1 l a → xs.length = l.length ∧ ∀ (j : Nat) x, xs[j]? = some x → w.cell? (a.add j) = some (.string x)
  | [], xs, a, h, _ => by
    simp only [sc11] at h
    cases h
    exact ⟨rfl, fun j x hj => by simp at hj⟩
  | e :: l, xs, a, h, hr => by
    unfold sc11 at h
    split at h
    · rename_i h'; cases h'
    · rename_i s l' he
      cases he
      split at h
      case h_2 => cases h
      rename_i r hr'
      cases h
      simp only [RepE, RepC, Rep] at hr
      obtain ⟨_, ⟨⟨u, hu, rfl⟩, _⟩, h2⟩ := hr
      obtain ⟨h3, h4⟩ := sc11_ok l r (a.add 1) hr' h2
      refine ⟨by simp [h3], fun j x hj => ?_⟩
      cases j with
      | zero =>
        simp at hj
        subst hj
        simpa [Addr.add] using hu
      | succ j =>
        have := h4 j x (by simpa using hj)
        have e : (a.add 1).add j = a.add (j + 1) := by
          unfold Addr.add
          by_cases h0 : j = 0
          · subst h0; simp
          · simp [h0, Nat.add_assoc, Nat.add_comm 1 j]
        rw [← e]; exact this
    · cases h
def ext11 : List V → Option (V × List Eng.Obj)
  | [.sq _ _ 1 l, .c (.string t)] => match sc11 l with
    | some xs => if l ≠ [] ∧ xs.length ≤ 140737488355328 ∧ (Lib.join (xs.map (·.data.toList)) t.data.toList).length ≤ 140737488355328 then some (.c (.string ⟨(Lib.join (xs.map (·.data.toList)) t.data.toList).toArray⟩), []) else none
    | none => none
  | _ => none
theorem ext11_ok : ExtOk Try.prog 11 ext11 := by
  refine ⟨ent Try.func11 rfl rfl, fun args v objs h w Pf ι vals hr D => ?_⟩
  unfold ext11 at h
  split at h
  case h_2 => cases h
  rename_i b fl l t
  split at h
  case h_2 => cases h
  rename_i xs hxs
  split at h
  case isFalse => cases h
  rename_i hc
  obtain ⟨hne, hN, hlen⟩ := hc
  cases h
  simp only [Reps, Rep] at hr
  obtain ⟨u, us, rfl, ⟨A, cap, rfl, hcap, _, _, _, hA⟩, u2, us2, rfl, rfl, rfl⟩ := hr
  obtain ⟨a, rfl, hE⟩ := hA.resolve_left hne
  obtain ⟨hl, hcell⟩ := sc11_ok l xs a hxs hE
  have hpos : 0 < xs.length := by
    rw [hl]; exact List.length_pos_iff.2 hne
  have h0 := hcell 0 xs[0] (by simp)
  have hsp : a.spot = none := by
    have : w.cell? a = some (.string xs[0]) := by simpa [Addr.add] using h0
    unfold World.cell? at this
    split at this
    · split at this
      · cases this
      · rename_i hs; simpa using hs
    · cases this
  have hblk : a.block < w.heap.size := World.block_lt_of_cell? w a (by simpa [Addr.add] using h0)
  have ha : ∀ j, (⟨a.block, a.off + j, none⟩ : Addr) = a.add j := by
    intro j
    obtain ⟨bk, o, sp⟩ := a
    simp only at hsp
    subst hsp
    unfold Addr.add
    by_cases h0 : j = 0
    · subst h0; simp
    · simp [h0]
  have hS := Try.strings_Join a.block a.off cap xs t w (fun j x hj => by rw [ha]; exact hcell j x hj) hblk hN (by omega) hlen
  have ea : (⟨a.block, a.off, none⟩ : Addr) = a := by have := ha 0; simpa [Addr.add] using this
  rw [hl, ea] at hS
  refine hS.mono ?_
  rintro e w' ⟨rfl, hb⟩
  have hp : ∀ g, Pf true g → w'.heap[g]? = w.heap[g]? := fun g hg => hb.block g (D.lt g hg)
  refine ⟨_, ι, 1, fun _ => False, rfl, ⟨hb.os, hb.tape, hb.output, hb.size, hp, fun _ _ _ h => h⟩, by simp only [Rep], ⟨fun id vr o h => ?_, D.fresh, D.fresh', fun id vr o id' vr' o' g t t' h => ?_, fun g hg => ?_, D.sub, D.gl hp⟩⟩
  · simp [hpOf] at h
  · simp [hpOf] at h
  · have := D.lt g hg
    have := hb.size
    omega
def ext12 : List V → Option (V × List Eng.Obj)
  | [.c (.string s), .c (.string t)] => match t.data.toList with
    | [c] => some (.c (.int .i64 (Lib.indexByte s.data.toList c)), [])
    | _ => none
  | _ => none
theorem ext12_ok : ExtOk Try.prog 12 ext12 := by
  refine ⟨ent Try.func12 rfl rfl, fun args v objs h w Pf ι vals hr D => ?_⟩
  unfold ext12 at h
  split at h
  case h_2 => cases h
  rename_i s t
  split at h
  case h_2 => cases h
  rename_i c hc
  cases h
  have ht : t = ⟨#[c]⟩ := by
    obtain ⟨a⟩ := t
    have : a = #[c] := by
      apply Array.ext'
      simpa using hc
    rw [this]
  subst ht
  simp only [Reps, Rep] at hr
  obtain ⟨u, us, rfl, rfl, u2, us2, rfl, rfl, rfl⟩ := hr
  refine (Try.strings_Index_one s c w).mono ?_
  rintro e w' ⟨rfl, rfl⟩
  refine ⟨_, ι, 1, fun _ => False, rfl, Fwd.refl _ _ _, by simp only [Rep], ⟨fun id vr o h => ?_, D.fresh, D.fresh', fun id vr o id' vr' o' g t t' h => ?_, D.lt, D.sub, D.glob⟩⟩
  · simp [hpOf] at h
  · simp [hpOf] at h
def X : FuncId → Option (List V → Option (V × List Eng.Obj))
  | 11 => some ext11
  | 12 => some ext12
  | _ => none
noncomputable def C : Cfg := ⟨T, F, X, WR, OW, K⟩
theorem cT : C.T = T := by unfold C; with_reducible rfl
theorem cF : C.fn = F := by unfold C; with_reducible rfl
theorem cX : C.ext = X := by unfold C; with_reducible rfl
theorem cWR : C.wr = WR := by unfold C; with_reducible rfl
theorem cOW : C.own = OW := by unfold C; with_reducible rfl
theorem cK : C.keep = K := by unfold C; with_reducible rfl
theorem cfgOk : CfgOk Try.prog C where
  mixed := by kernel_rfl
  tab := tabOk
  fn := fun f fn h => okF_0 f fn h
  ext := by
    intro f m h
    have h' : X f = some m := h
    unfold X at h'
    split at h'
    · cases h'; exact ext11_ok
    · cases h'; exact ext12_ok
    · cases h'
end Go.Proofs.Ytmleikmjjoneeaa.Eng
