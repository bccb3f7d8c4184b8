/- A deterministic reading of Go code over plain data: what functions of the program compute. No conditions. -/
import Derived.Test.YtemkckldfmpplaaLmbase
import Derived.Test.YtemkckldfmpplaaLmimpl
import Derived.Test.YtemkckldfmpplaaLmgood
import Derived.Test.YtemkckldfmpplaaLmrepeat
import Derived.Test.YtemkckldfmpplaaLmfieldby
import Derived.Test.YtemkckldfmpplaaLmnbh
import Derived.Test.YtemkckldfmpplaaLmneigh
import Derived.Test.YtemkckldfmpplaaLmminmax
import Derived.Test.YtemkckldfmpplaaEngT
namespace Go.Proofs.Ytemkckldfmpplaa.Eng
open Go Go.Proofs
set_option maxRecDepth 100000
set_option maxHeartbeats 2000000
set_option linter.unusedSimpArgs false
set_option linter.unusedVariables false
attribute [local simp] finK fin1 hpOf xi renQ isRoot runCode runOps stepX inlOf Eng.step wantedV astep val ofO made loadV storeV find V.cells bin binT binA numT numFs eqCells un1 setAt fieldAddrV fieldV indexAddrV indexV bounds sliceV convV lenV foldV max2V min2V callO bor rdsO wrsO seen_none okD_none loops keepIds resV resultsV St.ev TK.agg refs refsL refsO V.one V.isC Value.oneCell' ren renL renO noTag noTagL noTagR noTagO nodup mapO passV frs psi refsR newD loopNext opsAt idx flatAt rootOf backR newsV appendV copyV clearV strV bytesV bldV bufV selfV bytesOf nilCmp buildV fillF chunk
attribute [local simp] cT cF cX cWR cOW cK cBL X ints_length ints_get ints_getElem ints_drop ints_take ints_append ints_nil ints_set
attribute [local simp] ints_replicate
attribute [local simp] putV_some putV_none putH_app applyD_nil applyD_cons seen_app gc_ρ gc_H gc_tick st0_ρ st0_H st0_tick retV callRo callV_if borL_nil borL_cons ints_snoc take_self callWr cutH_app findQ afterV exportV_0 exportV_n okD_nil okD_cons sub_seq0 sub_seq1 sub_cond0 sub_cond1 sub_block sub_loop sub_nil young_far young_none hidW_nil mayW_nil pairs okI ok_0 ok_1 ok_2
attribute [local simp] T3 T4 T22 T24 T26 T29 T44
/-- The list that grows, of its own from the beginning. -/
def Cg (v : V) (H : Hp) (acc : List Int) : Prop := (acc = [] ∧ v = .s 1040 2 1 0 0 ∧ H 1040 = some (2, intsO [])) ∨ (acc ≠ [] ∧ ∃ tk, v = .s 13384 tk 1 0 acc.length ∧ H 13384 = some (tk, intsO acc))
theorem sortL_ne {l : List Int} (h : l ≠ []) : sortL l ≠ [] := by
  intro e
  have := sortL_length l
  rw [e] at this
  exact h (List.eq_nil_of_length_eq_zero this.symm)
theorem ins_ne (l : List Int) (n : Int) : ins l n ≠ [] := by
  intro e
  have := ins_length l n
  rw [e] at this
  simp at this
section
variable (k : Nat) (b : Bool) (w h : Int) (l : List Int) (x y r : Int)
theorem pos_loop (vv uu n : Int) (a : List Int) (id tk : Nat) (hal : a.length ≤ 100) (hk : 300 ≤ k) : ∀ st : St, (st.ρ 1 = .c (.int .i64 x) ∧ st.ρ 2 = .c (.int .i64 y) ∧ st.ρ 3 = .c (.int .i64 r) ∧ st.ρ 4 = .p 16 1 3 0 0 ∧ st.ρ 10 = .c (.int .i64 vv) ∧ st.ρ 11 = .c (.int .i64 uu) ∧ st.ρ 12 = .c (.int .i64 n) ∧ st.ρ 9 = .s id tk 1 0 a.length ∧ st.H 16 = some (1, ⟨29, 3, false, [[.c (.int .i64 w), .c (.int .i64 h), .sq b true 1 (ints l)]]⟩) ∧ st.H id = some (tk, intsO a) ∧ st.ρ 13 = .c (.int .i64 (a.length : Int))) →
    ∃ st', loopRun (fun st => runCode C (callK C k) k (K 17) L17_2 3 st) [1, 2, 3, 4, 9, 10, 11, 12, 13] k st = some (.ex 4, st') ∧ (st'.ρ 1 = .c (.int .i64 x) ∧ st'.ρ 2 = .c (.int .i64 y) ∧ st'.ρ 3 = .c (.int .i64 r) ∧ st'.ρ 4 = .p 16 1 3 0 0 ∧ st'.ρ 10 = .c (.int .i64 vv) ∧ st'.ρ 11 = .c (.int .i64 uu) ∧ st'.ρ 12 = .c (.int .i64 n) ∧ st'.ρ 9 = .s id tk 1 0 a.length ∧ st'.H 16 = some (1, ⟨29, 3, false, [[.c (.int .i64 w), .c (.int .i64 h), .sq b true 1 (ints l)]]⟩) ∧ st'.H id = some (tk, intsO a) ∧ st'.ρ 13 = .c (.int .i64 (pos a n : Int))) := by
  have hp := pos_le a n
  intro st ⟨q1, q2, q3, q4, q10, q11, q12, q9, H16, Hid, q13⟩
  refine loopHas (body := fun st => runCode C (callK C k) k (K 17) L17_2 3 st) (.ex 4) (fun st => st.ρ 1 = .c (.int .i64 x) ∧ st.ρ 2 = .c (.int .i64 y) ∧ st.ρ 3 = .c (.int .i64 r) ∧ st.ρ 4 = .p 16 1 3 0 0 ∧ st.ρ 10 = .c (.int .i64 vv) ∧ st.ρ 11 = .c (.int .i64 uu) ∧ st.ρ 12 = .c (.int .i64 n) ∧ st.ρ 9 = .s id tk 1 0 a.length ∧ st.H 16 = some (1, ⟨29, 3, false, [[.c (.int .i64 w), .c (.int .i64 h), .sq b true 1 (ints l)]]⟩) ∧ st.H id = some (tk, intsO a) ∧ st.ρ 13 = .c (.int .i64 (pos a n : Int)))
    (fun i st => st.ρ 1 = .c (.int .i64 x) ∧ st.ρ 2 = .c (.int .i64 y) ∧ st.ρ 3 = .c (.int .i64 r) ∧ st.ρ 4 = .p 16 1 3 0 0 ∧ st.ρ 10 = .c (.int .i64 vv) ∧ st.ρ 11 = .c (.int .i64 uu) ∧ st.ρ 12 = .c (.int .i64 n) ∧ st.ρ 9 = .s id tk 1 0 a.length ∧ st.H 16 = some (1, ⟨29, 3, false, [[.c (.int .i64 w), .c (.int .i64 h), .sq b true 1 (ints l)]]⟩) ∧ st.H id = some (tk, intsO a) ∧ ∃ m : Nat, m + i = a.length ∧ st.ρ 13 = .c (.int .i64 (m : Int)))
    (a.length - pos a n) k (by omega) ?_ ?_ st ⟨q1, q2, q3, q4, q10, q11, q12, q9, H16, Hid, a.length, by omega, q13⟩
  · rintro i st next hi ⟨q1, q2, q3, q4, q10, q11, q12, q9, H16, Hid, m, hm, q13⟩ hn
    obtain ⟨m, rfl⟩ : ∃ p, m = p + 1 := ⟨m - 1, by omega⟩
    have hma : m < a.length := by omega
    have hgt := pos_gt (l := a) (n := n) (j := m) (by omega) hma
    have w1 : IntKind.i64.wrap (m : Int) = m := wrap_small (by omega) (by omega)
    have g0 : (0 : Int) < m + 1 := by omega
    simp [L17_2, R17_0, R17_1, R17_2, R17_3, R17_4, R17_5, R17_6, R17_7, R17_8, R17_9, R17_10, R17_11, R17_12, R17_13, R17_14, R17_15, R17_16, R17_17, R17_18, R17_19, Try.f17, lpL17_0, lpL17_1, lpL17_2, lpL17_3, lpM17_0, lpM17_1, lpM17_2, lpM17_3, lpM17_4, M17_0, M17_1, M17_2, M17_3, M17_4, q1, q2, q3, q4, q10, q11, q12, q9, q13, H16, Hid, intsO, g0, w1, hma, hgt]
    refine hn _ ⟨?_, ?_, ?_, ?_, ?_, ?_, ?_, ?_, ?_, ?_, m, by omega, ?_⟩ <;> simp [q1, q2, q3, q4, q10, q11, q12, q9, H16, Hid, intsO]
  · rintro st next ⟨q1, q2, q3, q4, q10, q11, q12, q9, H16, Hid, m, hm, q13⟩
    obtain rfl : m = pos a n := by omega
    cases hz : pos a n with
    | zero =>
      rw [hz] at q13
      simp at q13
      simp [L17_2, R17_0, R17_1, R17_2, R17_3, R17_4, R17_5, R17_6, R17_7, R17_8, R17_9, R17_10, R17_11, R17_12, R17_13, R17_14, R17_15, R17_16, R17_17, R17_18, R17_19, Try.f17, lpL17_0, lpL17_1, lpL17_2, lpL17_3, lpM17_0, lpM17_1, lpM17_2, lpM17_3, lpM17_4, M17_0, M17_1, M17_2, M17_3, M17_4, q1, q2, q3, q4, q10, q11, q12, q9, q13, H16, Hid, intsO]
    | succ m =>
      rw [hz] at q13
      have hma : m < a.length := by omega
      have hgt := pos_stop (l := a) (n := n) (j := m) hz hma
      have w1 : IntKind.i64.wrap (m : Int) = m := wrap_small (by omega) (by omega)
      have g0 : (0 : Int) < m + 1 := by omega
      simp [L17_2, R17_0, R17_1, R17_2, R17_3, R17_4, R17_5, R17_6, R17_7, R17_8, R17_9, R17_10, R17_11, R17_12, R17_13, R17_14, R17_15, R17_16, R17_17, R17_18, R17_19, Try.f17, lpL17_0, lpL17_1, lpL17_2, lpL17_3, lpM17_0, lpM17_1, lpM17_2, lpM17_3, lpM17_4, M17_0, M17_1, M17_2, M17_3, M17_4, q1, q2, q3, q4, q10, q11, q12, q9, q13, H16, Hid, intsO, g0, w1, hma, hgt]
theorem shift_loop (vv uu n : Int) (a : List Int) (tk : Nat) (hal : a.length ≤ 100) (hk : 300 ≤ k) : ∀ st : St, (st.ρ 1 = .c (.int .i64 x) ∧ st.ρ 2 = .c (.int .i64 y) ∧ st.ρ 3 = .c (.int .i64 r) ∧ st.ρ 4 = .p 16 1 3 0 0 ∧ st.ρ 10 = .c (.int .i64 vv) ∧ st.ρ 11 = .c (.int .i64 uu) ∧ st.ρ 12 = .c (.int .i64 n) ∧ st.ρ 9 = .s 13384 tk 1 0 (a.length + 1) ∧ st.ρ 13 = .c (.int .i64 (pos a n : Int)) ∧ st.H 16 = some (1, ⟨29, 3, false, [[.c (.int .i64 w), .c (.int .i64 h), .sq b true 1 (ints l)]]⟩) ∧ st.H 13384 = some (tk, intsO (a ++ [n])) ∧ st.ρ 14 = .c (.int .i64 (a.length : Int))) →
    ∃ st', loopRun (fun st => runCode C (callK C k) k (K 17) L17_3 4 st) [1, 2, 3, 4, 9, 10, 11, 12, 13, 14] k st = some (.ex 6, st') ∧ (st'.ρ 1 = .c (.int .i64 x) ∧ st'.ρ 2 = .c (.int .i64 y) ∧ st'.ρ 3 = .c (.int .i64 r) ∧ st'.ρ 4 = .p 16 1 3 0 0 ∧ st'.ρ 10 = .c (.int .i64 vv) ∧ st'.ρ 11 = .c (.int .i64 uu) ∧ st'.ρ 12 = .c (.int .i64 n) ∧ st'.ρ 9 = .s 13384 tk 1 0 (a.length + 1) ∧ st'.ρ 13 = .c (.int .i64 (pos a n : Int)) ∧ st'.H 16 = some (1, ⟨29, 3, false, [[.c (.int .i64 w), .c (.int .i64 h), .sq b true 1 (ints l)]]⟩) ∧ st'.H 13384 = some (tk, intsO (shiftL a n (a.length - pos a n)))) := by
  have hp := pos_le a n
  intro st ⟨q1, q2, q3, q4, q10, q11, q12, q9, q13, H16, Hid, q14⟩
  refine loopHas (body := fun st => runCode C (callK C k) k (K 17) L17_3 4 st) (.ex 6) (fun st => st.ρ 1 = .c (.int .i64 x) ∧ st.ρ 2 = .c (.int .i64 y) ∧ st.ρ 3 = .c (.int .i64 r) ∧ st.ρ 4 = .p 16 1 3 0 0 ∧ st.ρ 10 = .c (.int .i64 vv) ∧ st.ρ 11 = .c (.int .i64 uu) ∧ st.ρ 12 = .c (.int .i64 n) ∧ st.ρ 9 = .s 13384 tk 1 0 (a.length + 1) ∧ st.ρ 13 = .c (.int .i64 (pos a n : Int)) ∧ st.H 16 = some (1, ⟨29, 3, false, [[.c (.int .i64 w), .c (.int .i64 h), .sq b true 1 (ints l)]]⟩) ∧ st.H 13384 = some (tk, intsO (shiftL a n (a.length - pos a n))))
    (fun i st => st.ρ 1 = .c (.int .i64 x) ∧ st.ρ 2 = .c (.int .i64 y) ∧ st.ρ 3 = .c (.int .i64 r) ∧ st.ρ 4 = .p 16 1 3 0 0 ∧ st.ρ 10 = .c (.int .i64 vv) ∧ st.ρ 11 = .c (.int .i64 uu) ∧ st.ρ 12 = .c (.int .i64 n) ∧ st.ρ 9 = .s 13384 tk 1 0 (a.length + 1) ∧ st.ρ 13 = .c (.int .i64 (pos a n : Int)) ∧ st.H 16 = some (1, ⟨29, 3, false, [[.c (.int .i64 w), .c (.int .i64 h), .sq b true 1 (ints l)]]⟩) ∧ st.H 13384 = some (tk, intsO (shiftL a n i)) ∧ ∃ m : Nat, m + i = a.length ∧ st.ρ 14 = .c (.int .i64 (m : Int)))
    (a.length - pos a n) k (by omega) ?_ ?_ st ⟨q1, q2, q3, q4, q10, q11, q12, q9, q13, H16, by rw [shiftL_zero]; exact Hid, a.length, by omega, q14⟩
  · rintro i st next hi ⟨q1, q2, q3, q4, q10, q11, q12, q9, q13, H16, Hid, m, hm, q14⟩ hn
    obtain ⟨m, rfl⟩ : ∃ p, m = p + 1 := ⟨m - 1, by omega⟩
    have hma : m < a.length := by omega
    have hma1 : m < a.length + 1 := by omega
    have hsl := shiftL_length a n i
    have hget := shiftL_get a n i m (by omega)
    have hget2 : (shiftL a n i)[m + 1]? = some ((shiftL a n i)[m + 1]'(by omega)) := List.getElem?_eq_getElem _
    have hset := shiftL_set a n i m (by omega)
    have w1 : IntKind.i64.wrap (m : Int) = m := wrap_small (by omega) (by omega)
    have g0 : (pos a n : Int) < m + 1 := by omega
    have g1 : (m : Int) < (a.length : Int) + 1 := by omega
    have g2 : (0 : Int) ≤ (m : Int) + 1 := by omega
    have hge : (shiftL a n i)[m]'(by omega) = a[m] := by rw [List.getElem?_eq_getElem (by omega)] at hget; exact Option.some.inj hget
    simp [L17_3, R17_0, R17_1, R17_2, R17_3, R17_4, R17_5, R17_6, R17_7, R17_8, R17_9, R17_10, R17_11, R17_12, R17_13, R17_14, R17_15, R17_16, R17_17, R17_18, R17_19, Try.f17, lpL17_0, lpL17_1, lpL17_2, lpL17_3, lpM17_0, lpM17_1, lpM17_2, lpM17_3, lpM17_4, M17_0, M17_1, M17_2, M17_3, M17_4, q1, q2, q3, q4, q10, q11, q12, q9, q13, q14, H16, Hid, intsO, g0, g1, g2, w1, hma, hma1, hsl, hget, hge, hget2, hset]
    refine hn _ ⟨?_, ?_, ?_, ?_, ?_, ?_, ?_, ?_, ?_, ?_, ?_, m, by omega, ?_⟩ <;> simp [q1, q2, q3, q4, q10, q11, q12, q9, q13, H16, Hid, intsO]
  · rintro st next ⟨q1, q2, q3, q4, q10, q11, q12, q9, q13, H16, Hid, m, hm, q14⟩
    obtain rfl : m = pos a n := by omega
    simp [L17_3, R17_0, R17_1, R17_2, R17_3, R17_4, R17_5, R17_6, R17_7, R17_8, R17_9, R17_10, R17_11, R17_12, R17_13, R17_14, R17_15, R17_16, R17_17, R17_18, R17_19, Try.f17, lpL17_0, lpL17_1, lpL17_2, lpL17_3, lpM17_0, lpM17_1, lpM17_2, lpM17_3, lpM17_4, M17_0, M17_1, M17_2, M17_3, M17_4, q1, q2, q3, q4, q10, q11, q12, q9, q13, q14, H16, Hid, intsO]
end

end Go.Proofs.Ytemkckldfmpplaa.Eng
