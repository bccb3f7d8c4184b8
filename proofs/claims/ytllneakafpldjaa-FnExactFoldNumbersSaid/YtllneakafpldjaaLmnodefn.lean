/- A deterministic reading of Go code over plain data: what functions of the program compute. No conditions. -/
import Derived.Test.YtllneakafpldjaaLmbase
import Derived.Test.YtllneakafpldjaaLmimpl
import Derived.Test.YtllneakafpldjaaLmgood
import Derived.Test.YtllneakafpldjaaLmminmax
import Derived.Test.YtllneakafpldjaaLmnodes
import Derived.Test.YtllneakafpldjaaEngT
namespace Go.Proofs.Ytllneakafpldjaa.Eng
open Go Go.Proofs
set_option maxRecDepth 100000
set_option maxHeartbeats 2000000
set_option linter.unusedSimpArgs false
set_option linter.unusedVariables false
attribute [local simp] finK fin1 hpOf xi renQ isRoot runCode runOps Eng.step wantedV astep val ofO made loadV storeV find V.cells bin binT binA numT numFs eqCells un1 setAt fieldAddrV fieldV indexAddrV indexV bounds sliceV convV lenV foldV max2V min2V callO bor rdsO wrsO seen_none okD_none loops keepIds resV resultsV St.ev TK.agg refs refsL refsO V.one V.isC Value.oneCell' ren renL renO noTag noTagL noTagR noTagO nodup mapO passV frs psi refsR newD loopNext opsAt idx flatAt rootOf backR newsV appendV copyV clearV strV bytesV bldV bufV selfV bytesOf nilCmp buildV fillF chunk
attribute [local simp] cT cF cX cWR cOW cK cBL X ints_length ints_get ints_getElem ints_drop ints_take ints_append ints_nil ints_set
attribute [local simp] ints_replicate
attribute [local simp] putV_some putV_none putH_app applyD_nil applyD_cons seen_app gc_ρ gc_H gc_tick st0_ρ st0_H st0_tick retV callRo callV_if borL_nil borL_cons ints_snoc take_self callWr cutH_app findQ afterV exportV_0 exportV_n okD_nil okD_cons sub_seq0 sub_seq1 sub_cond0 sub_cond1 sub_block sub_loop sub_nil young_far young_none hidW_nil mayW_nil pairs okI ok_0 ok_1 ok_2
attribute [local simp] T3 T4 T22 T24 T35 T37
def ndE (q : Int × Int) : List V := [.c (.int .i64 q.1), .c (.int .i64 q.2)]
def ndL (l : List (Int × Int)) : List (List V) := l.map ndE
theorem ndL_length (l : List (Int × Int)) : (ndL l).length = l.length := by simp [ndL]
theorem ndL_get (l : List (Int × Int)) (i : Nat) (h : i < l.length) : (ndL l)[i]? = some (ndE l[i]) := by simp [ndL, List.getElem?_eq_getElem h]
theorem ndL_take (l : List (Int × Int)) : (ndL l).take l.length = ndL l := List.take_of_length_le (by simp [ndL])
theorem ndL_at (l : List (Int × Int)) (i : Nat) (h : i < (ndL l).length) : (ndL l)[i] = ndE (l[i]'(by simpa [ndL] using h)) := by simp [ndL]
theorem getD_nd {l : List (Int × Int)} {i : Nat} (h : i < l.length) : l.getD i (0, 0) = l[i] := by simp [List.getD, List.getElem?_eq_getElem h]
theorem c_l5Arity (k : Nat) (q : Int × Int) (hk : 3 ≤ k) : callK C k 20 [.ag (ndE q)] [] = some (.c (.int .i64 (arI q)), hpOf [] []) := by
  obtain ⟨k, rfl⟩ : ∃ m, k = m + 1 := ⟨k - 1, by omega⟩
  rw [callK_fn rfl F20 code20]
  obtain ⟨a, b⟩ := q
  have i1 := c_l1In k b 0 3 (by omega)
  have i2 := c_l1In k b 0 9000 (by omega)
  have i3 := c_l1In k a 3 6 (by omega)
  unfold arI
  simp only []
  by_cases a1 : a = 1
  · subst a1
    cases e1 : (decide (0 ≤ b) && decide (b ≤ 3))
    · rw [e1] at i1
      have e1' : ¬ (0 ≤ b ∧ b ≤ 3) := by simpa using e1
      simp [R20_0, R20_1, R20_2, R20_3, R20_4, R20_5, R20_6, R20_7, R20_8, Try.f20, ndE, i1, i3, e1']
    · rw [e1] at i1
      have e1' : 0 ≤ b ∧ b ≤ 3 := by simpa using e1
      simp [R20_0, R20_1, R20_2, R20_3, R20_4, R20_5, R20_6, R20_7, R20_8, Try.f20, ndE, i1, i3, e1']
  have a1' : (a == 1) = false := by simpa using a1
  by_cases a2 : a = 2
  · subst a2
    cases e1 : (decide (0 ≤ b) && decide (b ≤ 9000))
    · rw [e1] at i2
      have e1' : ¬ (0 ≤ b ∧ b ≤ 9000) := by simpa using e1
      simp [R20_0, R20_1, R20_2, R20_3, R20_4, R20_5, R20_6, R20_7, R20_8, Try.f20, ndE, i2, i3, e1']
    · rw [e1] at i2
      have e1' : 0 ≤ b ∧ b ≤ 9000 := by simpa using e1
      simp [R20_0, R20_1, R20_2, R20_3, R20_4, R20_5, R20_6, R20_7, R20_8, Try.f20, ndE, i2, i3, e1']
  have a2' : (a == 2) = false := by simpa using a2
  cases e3 : (decide (3 ≤ a) && decide (a ≤ 6))
  · rw [e3] at i3
    have e3' : ¬ (3 ≤ a ∧ a ≤ 6) := by simpa using e3
    by_cases a7 : a = 7
    · subst a7
      cases e1 : (decide (0 ≤ b) && decide (b ≤ 9000))
      · rw [e1] at i2
        have e1' : ¬ (0 ≤ b ∧ b ≤ 9000) := by simpa using e1
        simp [R20_0, R20_1, R20_2, R20_3, R20_4, R20_5, R20_6, R20_7, R20_8, Try.f20, ndE, i2, i3, e1']
      · rw [e1] at i2
        have e1' : 0 ≤ b ∧ b ≤ 9000 := by simpa using e1
        simp [R20_0, R20_1, R20_2, R20_3, R20_4, R20_5, R20_6, R20_7, R20_8, Try.f20, ndE, i2, i3, e1']
    · have a7' : (a == 7) = false := by simpa using a7
      simp [R20_0, R20_1, R20_2, R20_3, R20_4, R20_5, R20_6, R20_7, R20_8, Try.f20, ndE, i3, a1, a1', a2, a2', a7, a7', e3']
  · rw [e3] at i3
    have e3' : 3 ≤ a ∧ a ≤ 6 := by simpa using e3
    have a7 : ¬ a = 7 := by omega
    have a7' : (a == 7) = false := by simpa using a7
    by_cases b0 : b = 0
    · simp [R20_0, R20_1, R20_2, R20_3, R20_4, R20_5, R20_6, R20_7, R20_8, Try.f20, ndE, i3, a1, a1', a2, a2', e3', b0]
    · have b0' : (b == 0) = false := by simpa using b0
      simp [R20_0, R20_1, R20_2, R20_3, R20_4, R20_5, R20_6, R20_7, R20_8, Try.f20, ndE, i3, a1, a1', a2, a2', a7, a7', e3', b0, b0']
def argI (q : Int × Int) : Int := if 3 ≤ q.1 ∧ q.1 ≤ 6 then 2 else if q.1 = 7 then 1 else 0
theorem argI_eq {q : Int × Int} (h : 0 ≤ arI q) : argI q = arI q := by
  unfold argI arI at *
  split at h
  · rename_i h1
    rw [if_pos h1, if_neg (by omega), if_neg (by omega)]
  · rename_i h1
    rw [if_neg h1]
    split at h
    · rename_i h2
      rw [if_pos h2, if_pos h2.1]
    · rename_i h2
      rw [if_neg h2]
      split at h
      · rename_i h3
        rw [if_pos h3, if_neg (by omega), if_pos h3.1]
      · omega
theorem arg_bound (q : Int × Int) : 0 ≤ argI q ∧ argI q ≤ 2 := by
  unfold argI
  split
  · omega
  · split <;> omega
theorem c_arguments (k : Nat) (q : Int × Int) (hk : 3 ≤ k) : callK C k 18 [.ag (ndE q)] [] = some (.c (.int .i64 (argI q)), hpOf [] []) := by
  obtain ⟨k, rfl⟩ : ∃ m, k = m + 1 := ⟨k - 1, by omega⟩
  rw [callK_fn rfl F18 code18]
  obtain ⟨a, b⟩ := q
  have i3 := c_within k a 3 6 (by omega)
  unfold argI
  simp only []
  cases e3 : (decide (3 ≤ a) && decide (a ≤ 6))
  · rw [e3] at i3
    have e3' : ¬ (3 ≤ a ∧ a ≤ 6) := by simpa using e3
    by_cases a7 : a = 7
    · subst a7
      simp [R18_0, R18_1, R18_2, R18_3, R18_4, R18_5, Try.f18, ndE, i3]
    · have a7' : (a == 7) = false := by simpa using a7
      simp [R18_0, R18_1, R18_2, R18_3, R18_4, R18_5, Try.f18, ndE, i3, a7, a7', e3']
  · rw [e3] at i3
    have e3' : 3 ≤ a ∧ a ≤ 6 := by simpa using e3
    simp [R18_0, R18_1, R18_2, R18_3, R18_4, R18_5, Try.f18, ndE, i3, e3']
theorem c_isNode (k : Nat) (q : Int × Int) (hk : 3 ≤ k) : callK C k 24 [.ag (ndE q)] [] = some (.c (.bool (decide (0 ≤ arI q))), hpOf [] []) := by
  obtain ⟨k, rfl⟩ : ∃ m, k = m + 1 := ⟨k - 1, by omega⟩
  rw [callK_fn rfl F24 code24]
  obtain ⟨a, b⟩ := q
  have i1 := c_within k b 0 3 (by omega)
  have i2 := c_within k b 0 9000 (by omega)
  have i3 := c_within k a 3 6 (by omega)
  unfold arI
  simp only []
  by_cases a1 : a = 1
  · subst a1
    cases e1 : (decide (0 ≤ b) && decide (b ≤ 3))
    · rw [e1] at i1
      have e1' : ¬ (0 ≤ b ∧ b ≤ 3) := by simpa using e1
      simp [R24_0, R24_1, R24_2, R24_3, R24_4, R24_5, Try.f24, ndE, i1, i3, e1']
    · rw [e1] at i1
      have e1' : 0 ≤ b ∧ b ≤ 3 := by simpa using e1
      simp [R24_0, R24_1, R24_2, R24_3, R24_4, R24_5, Try.f24, ndE, i1, i3, e1']
  have a1' : (a == 1) = false := by simpa using a1
  by_cases a2 : a = 2
  · subst a2
    cases e1 : (decide (0 ≤ b) && decide (b ≤ 9000))
    · rw [e1] at i2
      have e1' : ¬ (0 ≤ b ∧ b ≤ 9000) := by simpa using e1
      simp [R24_0, R24_1, R24_2, R24_3, R24_4, R24_5, Try.f24, ndE, i2, i3, e1']
    · rw [e1] at i2
      have e1' : 0 ≤ b ∧ b ≤ 9000 := by simpa using e1
      simp [R24_0, R24_1, R24_2, R24_3, R24_4, R24_5, Try.f24, ndE, i2, i3, e1']
  have a2' : (a == 2) = false := by simpa using a2
  by_cases a7 : a = 7
  · subst a7
    cases e1 : (decide (0 ≤ b) && decide (b ≤ 9000))
    · rw [e1] at i2
      have e1' : ¬ (0 ≤ b ∧ b ≤ 9000) := by simpa using e1
      simp [R24_0, R24_1, R24_2, R24_3, R24_4, R24_5, Try.f24, ndE, i2, i3, e1']
    · rw [e1] at i2
      have e1' : 0 ≤ b ∧ b ≤ 9000 := by simpa using e1
      simp [R24_0, R24_1, R24_2, R24_3, R24_4, R24_5, Try.f24, ndE, i2, i3, e1']
  have a7' : (a == 7) = false := by simpa using a7
  cases e3 : (decide (3 ≤ a) && decide (a ≤ 6))
  · rw [e3] at i3
    have e3' : ¬ (3 ≤ a ∧ a ≤ 6) := by simpa using e3
    simp [R24_0, R24_1, R24_2, R24_3, R24_4, R24_5, Try.f24, ndE, i3, a1, a1', a2, a2', a7, a7', e3']
  · rw [e3] at i3
    have e3' : 3 ≤ a ∧ a ≤ 6 := by simpa using e3
    by_cases b0 : b = 0
    · simp [R24_0, R24_1, R24_2, R24_3, R24_4, R24_5, Try.f24, ndE, i3, a1, a1', a2, a2', a7, a7', e3', b0]
    · have b0' : (b == 0) = false := by simpa using b0
      simp [R24_0, R24_1, R24_2, R24_3, R24_4, R24_5, Try.f24, ndE, i3, a1, a1', a2, a2', a7, a7', e3', b0, b0']

theorem c_l5Good (k : Nat) (b : Bool) (l : List (Int × Int)) (hk : 100 ≤ k) : callK C k 11 [.sq b true 2 (ndL l)] [] = some (.c (.bool (goodE l)), hpOf [] []) := by
  obtain ⟨k, rfl⟩ : ∃ m, k = m + 1 := ⟨k - 1, by omega⟩
  rw [callK_fn rfl F11 code11]
  by_cases h15 : l.length ≤ 15
  · have h15' : ¬ (15 : Int) < (l.length : Int) := by omega
    have har := fun q => c_l5Arity k q (by omega)
    by_cases hg : 0 ≤ runO l l.length
    · have hL := loopHas (body := fun st => runCode C (callK C (k + 0)) (k + 0) (K 11) L11_0 1 st) (keep := [0, 3, 4]) (.ex 0) (fun st => st.ρ 3 = .c (.int .i64 (runO l l.length)))
        (fun i st => st.ρ 0 = .sq b true 2 (ndL l) ∧ st.ρ 3 = .c (.int .i64 (runO l i)) ∧ st.ρ 4 = .c (.int .i64 (i : Int)))
        l.length (k + 0) (by omega)
        (by
          rintro i st next hi ⟨q0, q3, q4⟩ hn
          have hgi : 0 ≤ runO l (i + 1) := runO_mono hg (l.length - (i + 1)) (i + 1) (by omega)
          obtain ⟨r1, r2, r3, r4⟩ := runO_back hgi
          rw [getD_nd hi] at r2 r3 r4
          have r5 := runO_le l i
          have nget := ndL_get l i hi
          have haq := har l[i]
          simp [ndE] at haq
          have g1 : ¬ arI l[i] < 0 := by omega
          have g2 : ¬ runO l i < arI l[i] := by omega
          have w1 : IntKind.i64.wrap (runO l i - arI l[i]) = runO l i - arI l[i] := wrap_small (by omega) (by omega)
          have w2 : IntKind.i64.wrap (runO l i - arI l[i] + 1) = runO l (i + 1) := by rw [r4]; exact wrap_small (by omega) (by omega)
          simp [L11_0, R11_0, R11_1, R11_2, R11_3, R11_4, R11_5, R11_6, R11_7, R11_8, R11_9, R11_10, R11_11, Try.f11, lpL11_0, lpM11_0, M11_0, q0, q3, q4, hi, ndL_length, ndL_at, ndE, haq, g1, g2, w1, w2, wrap_next hi (by omega : l.length ≤ 9000000000000000000)]
          exact hn _ (by simp [q0]))
        (by
          rintro st next ⟨q0, q3, q4⟩
          simp [L11_0, R11_0, R11_1, R11_2, R11_3, R11_4, R11_5, R11_6, R11_7, R11_8, R11_9, R11_10, R11_11, Try.f11, lpL11_0, lpM11_0, M11_0, q0, q3, q4, ndL_length])
      simp [R11_0, R11_1, R11_2, R11_3, R11_4, R11_5, R11_6, R11_7, R11_8, R11_9, R11_10, R11_11, Try.f11, lpL11_0, lpM11_0, ndL_length, h15']
      generalize hr : loopRun _ _ _ _ = res
      obtain ⟨s1, rfl, f3⟩ := loop_at hL hr (by simp [runO])
      simp [R11_0, R11_1, R11_2, R11_3, R11_4, R11_5, R11_6, R11_7, R11_8, R11_9, R11_10, R11_11, Try.f11, lpL11_0, lpM11_0, M11_0, f3, goodE, h15]
      try (by_cases h1 : runO l l.length = 1 <;> simp [h1])
    · have hL := loopHas (body := fun st => runCode C (callK C (k + 0)) (k + 0) (K 11) L11_0 1 st) (keep := [0, 3, 4]) .ret (fun st => st.ρ 2 = .c (.bool false))
        (fun i st => st.ρ 0 = .sq b true 2 (ndL l) ∧ st.ρ 3 = .c (.int .i64 (runO l i)) ∧ st.ρ 4 = .c (.int .i64 (i : Int)) ∧ 0 ≤ runO l i)
        l.length (k + 0) (by omega)
        (by
          rintro i st next hi ⟨q0, q3, q4, r1⟩ hn
          have r5 := runO_le l i
          have nget := ndL_get l i hi
          have haq := har l[i]
          simp [ndE] at haq
          have hs := runO_succ l i
          rw [getD_nd hi] at hs
          have hca := ar_cases l[i]
          by_cases g1 : arI l[i] < 0
          · simp [L11_0, R11_0, R11_1, R11_2, R11_3, R11_4, R11_5, R11_6, R11_7, R11_8, R11_9, R11_10, R11_11, Try.f11, lpL11_0, lpM11_0, M11_0, q0, q3, q4, hi, ndL_length, ndL_at, ndE, haq, g1]
          · by_cases g2 : runO l i < arI l[i]
            · simp [L11_0, R11_0, R11_1, R11_2, R11_3, R11_4, R11_5, R11_6, R11_7, R11_8, R11_9, R11_10, R11_11, Try.f11, lpL11_0, lpM11_0, M11_0, q0, q3, q4, hi, ndL_length, ndL_at, ndE, haq, g1, g2]
            · rw [if_neg (by omega)] at hs
              have w1 : IntKind.i64.wrap (runO l i - arI l[i]) = runO l i - arI l[i] := wrap_small (by omega) (by omega)
              have w2 : IntKind.i64.wrap (runO l i - arI l[i] + 1) = runO l (i + 1) := by rw [hs]; exact wrap_small (by omega) (by omega)
              simp [L11_0, R11_0, R11_1, R11_2, R11_3, R11_4, R11_5, R11_6, R11_7, R11_8, R11_9, R11_10, R11_11, Try.f11, lpL11_0, lpM11_0, M11_0, q0, q3, q4, hi, ndL_length, ndL_at, ndE, haq, g1, g2, w1, w2, wrap_next hi (by omega : l.length ≤ 9000000000000000000)]
              exact hn _ ⟨by simp [q0], by simp, by simp, by omega⟩)
        (by
          rintro st next ⟨q0, q3, q4, r1⟩
          omega)
      have hg1 : goodE l = false := by
        have : ¬ runO l l.length = 1 := by omega
        simp [goodE, this]
      simp [R11_0, R11_1, R11_2, R11_3, R11_4, R11_5, R11_6, R11_7, R11_8, R11_9, R11_10, R11_11, Try.f11, lpL11_0, lpM11_0, ndL_length, h15']
      generalize hr : loopRun _ _ _ _ = res
      obtain ⟨s1, rfl, f2⟩ := loop_at hL hr (by simp [runO])
      simp [R11_0, R11_1, R11_2, R11_3, R11_4, R11_5, R11_6, R11_7, R11_8, R11_9, R11_10, R11_11, Try.f11, lpL11_0, lpM11_0, M11_0, f2, hg1]
  · have h15' : (15 : Int) < (l.length : Int) := by omega
    simp [R11_0, R11_1, R11_2, R11_3, R11_4, R11_5, R11_6, R11_7, R11_8, R11_9, R11_10, R11_11, Try.f11, lpL11_0, lpM11_0, M11_0, ndL_length, h15', goodE, h15]

end Go.Proofs.Ytllneakafpldjaa.Eng
