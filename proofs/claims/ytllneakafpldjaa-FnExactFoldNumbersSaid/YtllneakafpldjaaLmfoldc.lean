/- A deterministic reading of Go code over plain data: what functions of the program compute. No conditions. -/
import Derived.Test.YtllneakafpldjaaLmbase
import Derived.Test.YtllneakafpldjaaLmimpl
import Derived.Test.YtllneakafpldjaaLmgood
import Derived.Test.YtllneakafpldjaaLmminmax
import Derived.Test.YtllneakafpldjaaLmnodes
import Derived.Test.YtllneakafpldjaaLmnodep
import Derived.Test.YtllneakafpldjaaLmnodefn
import Derived.Test.YtllneakafpldjaaLmisexpr
import Derived.Test.YtllneakafpldjaaLmnodelaw
import Derived.Test.YtllneakafpldjaaLmcombspec
import Derived.Test.YtllneakafpldjaaLmfoldp
import Derived.Test.YtllneakafpldjaaEngT
namespace Go.Proofs.Ytllneakafpldjaa.Eng
open Go Go.Proofs
set_option maxRecDepth 100000
set_option maxHeartbeats 2000000
set_option linter.unusedSimpArgs false
set_option linter.unusedVariables false
attribute [local simp] finK fin1 hpOf xi renQ isRoot runCode runOps Eng.step wantedV astep val ofO made loadV storeV find V.cells bin binT binA numT numFs eqCells un1 setAt fieldAddrV fieldV indexAddrV indexV bounds sliceV convV lenV foldV max2V min2V callO bor rdsO wrsO seen_none okD_none loops keepIds resV resultsV St.ev TK.agg refs refsL refsO V.one V.isC Value.oneCell' ren renL renO noTag noTagL noTagR noTagO nodup mapO passV frs psi refsR newD loopNext opsAt idx flatAt rootOf backR newsV appendV copyV clearV strV bytesV bldV bufV selfV bytesOf nilCmp buildV fillF chunk
attribute [local simp] cT cF cX cWR cOW cK cBL X ints_length ints_get ints_getElem ints_drop ints_take ints_append ints_nil ints_set
attribute [local simp] ints_replicate
attribute [local simp] putV_some putV_none putH_app applyD_nil applyD_cons seen_app gc_ρ gc_H gc_tick st0_ρ st0_H st0_tick retV callRo callV_if borL_nil borL_cons ints_snoc take_self callWr cutH_app findQ afterV exportV_0 exportV_n okD_nil okD_cons sub_seq0 sub_seq1 sub_cond0 sub_cond1 sub_block sub_loop sub_nil young_far young_none hidW_nil mayW_nil pairs okI ok_0 ok_1 ok_2
attribute [local simp] T3 T4 T22 T24 T35 T37
attribute [local simp] young_near clo cloF Region.binds Nat.testBit hidW declW mayW List.findIdx?_cons
theorem ndL_takeI (l : List (Int × Int)) (i : Nat) : (ndL l).take i = ndL (l.take i) := by simp [ndL, List.map_take]
theorem ndL_dropI (l : List (Int × Int)) (i : Nat) : (ndL l).drop i = ndL (l.drop i) := by simp [ndL, List.map_drop]
theorem drop_one {l : List (Int × Int)} {i m : Nat} (hi : i = m + 1) (hl : i ≤ l.length) : (l.take i).drop m = [l.getD m (0, 0)] := by
  subst hi
  rw [List.take_succ_eq_append_getElem (by omega), List.drop_append_of_le_length (by rw [List.length_take]; omega), List.drop_eq_nil_of_le (by rw [List.length_take]; omega), List.nil_append, List.getD_eq_getElem?_getD, List.getElem?_eq_getElem (by omega)]
  rfl
theorem drop_two {l : List (Int × Int)} {i m : Nat} (hi : i = m + 2) (hl : i ≤ l.length) : (l.take i).drop m = [l.getD m (0, 0), l.getD (m + 1) (0, 0)] := by
  subst hi
  rw [List.take_succ_eq_append_getElem (i := m + 1) (by omega), List.drop_append_of_le_length (by rw [List.length_take]; omega), drop_one rfl (by omega), show l.getD (m + 1) (0, 0) = l[m + 1] by rw [List.getD_eq_getElem?_getD, List.getElem?_eq_getElem (by omega)]; rfl]
  rfl
theorem ndL_c (a : Int × Int) (l : List (Int × Int)) : ndL (a :: l) = ndE a :: ndL l := rfl
theorem ndL_n : ndL [] = [] := rfl
theorem wrap_00 : IntKind.i64.wrap 0 = 0 := rfl
theorem c_foldedValue (k : Nat) (b : Bool) (l : List (Int × Int)) (i : Nat) (hi : i < l.length) (h15 : l.length ≤ 15) (hr : 0 ≤ runO l l.length) (hk : 20 ≤ k) :
    ∃ v ok, callK C k 16 [.sq b true 2 (ndL (l.take i)), .ag (ndE (l.getD i (0, 0)))] [] = some (.tp [.c (.int .i64 v), .c (.bool ok)], hpOf [] []) ∧ ((ok = true ∧ ∃ c, fv l i = some (c, v)) ∨ (ok = false ∧ fv l i = none)) := by
  obtain ⟨k, rfl⟩ : ∃ m, k = m + 9 := ⟨k - 9, by omega⟩
  rw [callK_fn rfl F16 code16]
  obtain ⟨r1, r2, r3, r4⟩ := runAt hr i hi
  have hle := runO_le l i
  have ha := c_arguments (k + 8) (l.getD i (0, 0)) (by omega)
  rw [argI_eq r2] at ha
  have hw := fun x => c_within (k + 8) x 0 9000 (by omega)
  obtain ⟨B, hB⟩ : ∃ B, l.take i = B := ⟨_, rfl⟩
  have hlt : B.length = i := by rw [← hB, List.length_take]; omega
  have hBt : B.take i = B := by rw [← hlt]; exact List.take_length
  by_cases h7 : (l.getD i (0, 0)).1 = 7
  · have e1 := ar_above r2 h7
    obtain ⟨m, rfl⟩ : ∃ m, i = m + 1 := ⟨i - 1, by omega⟩
    have hd := drop_one (l := l) (i := m + 1) (m := m) rfl (by omega)
    have hf : fv l (m + 1) = if (l.getD m (0, 0)).1 = 2 then some (1, if (l.getD m (0, 0)).2 > (l.getD (m + 1) (0, 0)).2 then 1 else 0) else none := by
      unfold fv
      rw [if_pos h7]
      rfl
    rw [hf]
    rw [e1] at ha
    rw [hB] at hd ⊢
    obtain ⟨q, hq⟩ : ∃ q, l.getD (m + 1) (0, 0) = q := ⟨_, rfl⟩
    obtain ⟨p, hp⟩ : ∃ p, l.getD m (0, 0) = p := ⟨_, rfl⟩
    rw [hq] at ha h7 ⊢
    rw [hp] at hd ⊢
    obtain ⟨q1, q2⟩ := q
    obtain ⟨p1, p2⟩ := p
    simp only [] at h7 ⊢
    subst h7
    have w1 : IntKind.i64.wrap (m : Int) = (m : Int) := wrap_small (by omega) (by omega)
    have g1 : (m : Int) ≤ (m : Int) + 1 := by omega
    simp [ndE] at ha
    by_cases hp2 : p1 = 2
    · by_cases hgt : p2 > q2
      · refine ⟨1, true, ?_, .inl ⟨rfl, 1, by simp [hp2, hgt]⟩⟩
        simp [R16_0, R16_1, R16_2, R16_3, R16_4, R16_5, R16_6, R16_7, R16_8, R16_9, R16_10, R16_11, R16_12, R16_13, R16_14, R16_15, R16_16, R16_17, R16_18, R16_19, R16_20, R16_21, R16_22, R16_23, R16_24, Try.f16, lpL16_0, lpM16_0, M16_0, L16_0, loopRun_succ, wrap_1, wrap_00, ndE, ndL_c, ndL_n, ha, hw, ndL_length, hlt, hBt, w1, g1, ndL_dropI, ndL_takeI, hd, hp2, hgt]
      · refine ⟨0, true, ?_, .inl ⟨rfl, 1, by simp [hp2, hgt]⟩⟩
        simp [R16_0, R16_1, R16_2, R16_3, R16_4, R16_5, R16_6, R16_7, R16_8, R16_9, R16_10, R16_11, R16_12, R16_13, R16_14, R16_15, R16_16, R16_17, R16_18, R16_19, R16_20, R16_21, R16_22, R16_23, R16_24, Try.f16, lpL16_0, lpM16_0, M16_0, L16_0, loopRun_succ, wrap_1, wrap_00, ndE, ndL_c, ndL_n, ha, hw, ndL_length, hlt, hBt, w1, g1, ndL_dropI, ndL_takeI, hd, hp2, hgt]
    · refine ⟨0, false, ?_, .inr ⟨rfl, by simp [hp2]⟩⟩
      have hp2b : (p1 == 2) = false := by simpa using hp2
      simp [R16_0, R16_1, R16_2, R16_3, R16_4, R16_5, R16_6, R16_7, R16_8, R16_9, R16_10, R16_11, R16_12, R16_13, R16_14, R16_15, R16_16, R16_17, R16_18, R16_19, R16_20, R16_21, R16_22, R16_23, R16_24, Try.f16, lpL16_0, lpM16_0, M16_0, L16_0, loopRun_succ, wrap_1, wrap_00, ndE, ndL_c, ndL_n, ha, hw, ndL_length, hlt, hBt, w1, g1, ndL_dropI, ndL_takeI, hd, hp2, hp2b]
  · by_cases h36 : 3 ≤ (l.getD i (0, 0)).1 ∧ (l.getD i (0, 0)).1 ≤ 6
    · have e1 := ar_two r2 h36
      obtain ⟨m, rfl⟩ : ∃ m, i = m + 2 := ⟨i - 2, by omega⟩
      have hd := drop_two (l := l) (i := m + 2) (m := m) rfl (by omega)
      have hf : fv l (m + 2) = (if (l.getD m (0, 0)).1 = 2 ∧ (l.getD (m + 1) (0, 0)).1 = 2 ∧ 0 ≤ opF (l.getD (m + 2) (0, 0)).1 (l.getD m (0, 0)).2 (l.getD (m + 1) (0, 0)).2 ∧ opF (l.getD (m + 2) (0, 0)).1 (l.getD m (0, 0)).2 (l.getD (m + 1) (0, 0)).2 ≤ 9000 then
          some (2, opF (l.getD (m + 2) (0, 0)).1 (l.getD m (0, 0)).2 (l.getD (m + 1) (0, 0)).2) else none) := by
        unfold fv
        rw [if_neg h7, if_pos h36]
        rfl
      rw [hf]
      rw [e1] at ha
      rw [hB] at hd ⊢
      have rp := (runAt hr m (by omega)).2.1
      have rs := (runAt hr (m + 1) (by omega)).2.1
      obtain ⟨q, hq⟩ : ∃ q, l.getD (m + 2) (0, 0) = q := ⟨_, rfl⟩
      obtain ⟨p, hp⟩ : ∃ p, l.getD m (0, 0) = p := ⟨_, rfl⟩
      obtain ⟨s, hs⟩ : ∃ s, l.getD (m + 1) (0, 0) = s := ⟨_, rfl⟩
      rw [hq] at ha h36 ⊢
      rw [hp, hs] at hd ⊢
      rw [hp] at rp
      rw [hs] at rs
      obtain ⟨q1, q2⟩ := q
      obtain ⟨p1, p2⟩ := p
      obtain ⟨s1, s2⟩ := s
      simp only [] at h36 ⊢
      have w1 : IntKind.i64.wrap (m : Int) = (m : Int) := wrap_small (by omega) (by omega)
      have w2 : IntKind.i64.wrap 2 = 2 := rfl
      have w3 : IntKind.i64.wrap ((m : Int) + 2 - 2) = (m : Int) := by rw [wrap_small (by omega) (by omega)]; omega
      have g1 : (m : Int) ≤ (m : Int) + 2 := by omega
      simp [ndE] at ha
      by_cases hp2 : p1 = 2
      · obtain ⟨_, a1, a2⟩ := ar_num rp hp2
        simp only [] at a1 a2
        by_cases hs2 : s1 = 2
        · obtain ⟨_, a3, a4⟩ := ar_num rs hs2
          simp only [] at a3 a4
          subst hp2
          subst hs2
          have u1 : IntKind.i64.wrap (p2 + s2) = p2 + s2 := wrap_small (by omega) (by omega)
          have u2 : IntKind.i64.wrap (p2 - s2) = p2 - s2 := wrap_small (by omega) (by omega)
          have key : ∀ v, v = opF q1 p2 s2 → callK C (k + 9) 16 [.sq b true 2 (ndL B), .ag (ndE (q1, q2))] [] = some (.tp [.c (.int .i64 v), .c (.bool (decide (0 ≤ v) && decide (v ≤ 9000)))], hpOf [] []) → ∃ v ok, callK C (k + 9) 16 [.sq b true 2 (ndL B), .ag (ndE (q1, q2))] [] = some (.tp [.c (.int .i64 v), .c (.bool ok)], hpOf [] []) ∧
              ((ok = true ∧ ∃ c, (if True ∧ True ∧ 0 ≤ opF q1 p2 s2 ∧ opF q1 p2 s2 ≤ 9000 then some (2, opF q1 p2 s2) else none) = some (c, v)) ∨ (ok = false ∧ (if True ∧ True ∧ 0 ≤ opF q1 p2 s2 ∧ opF q1 p2 s2 ≤ 9000 then some (2, opF q1 p2 s2) else none) = none)) := by
            intro v hv he
            subst hv
            refine ⟨_, _, he, ?_⟩
            by_cases hok : 0 ≤ opF q1 p2 s2 ∧ opF q1 p2 s2 ≤ 9000
            · exact .inl ⟨by simp [hok], 2, by simp [hok]⟩
            · refine .inr ⟨?_, ?_⟩
              · simp only [Bool.and_eq_false_iff, decide_eq_false_iff_not]; omega
              · rw [if_neg (fun h => hok h.2.2)]
          rw [callK_fn rfl F16 code16] at key
          simp only [eq_self_iff_true]
          rcases (show q1 = 3 ∨ q1 = 4 ∨ q1 = 5 ∨ q1 = 6 by omega) with rfl | rfl | rfl | rfl
          · refine key (p2 + s2) (by simp [opF]) ?_
            simp [R16_0, R16_1, R16_2, R16_3, R16_4, R16_5, R16_6, R16_7, R16_8, R16_9, R16_10, R16_11, R16_12, R16_13, R16_14, R16_15, R16_16, R16_17, R16_18, R16_19, R16_20, R16_21, R16_22, R16_23, R16_24, Try.f16, lpL16_0, lpM16_0, M16_0, L16_0, loopRun_succ, wrap_1, wrap_00, ndE, ndL_c, ndL_n, ha, hw, ndL_length, hlt, hBt, w1, w2, w3, g1, ndL_dropI, ndL_takeI, hd, u1, u2]
          · refine key (p2 - s2) (by simp [opF]) ?_
            simp [R16_0, R16_1, R16_2, R16_3, R16_4, R16_5, R16_6, R16_7, R16_8, R16_9, R16_10, R16_11, R16_12, R16_13, R16_14, R16_15, R16_16, R16_17, R16_18, R16_19, R16_20, R16_21, R16_22, R16_23, R16_24, Try.f16, lpL16_0, lpM16_0, M16_0, L16_0, loopRun_succ, wrap_1, wrap_00, ndE, ndL_c, ndL_n, ha, hw, ndL_length, hlt, hBt, w1, w2, w3, g1, ndL_dropI, ndL_takeI, hd, u1, u2]
          · refine key (if s2 < p2 then s2 else p2) (by simp only [opF]; simp; split <;> split <;> omega) ?_
            simp [R16_0, R16_1, R16_2, R16_3, R16_4, R16_5, R16_6, R16_7, R16_8, R16_9, R16_10, R16_11, R16_12, R16_13, R16_14, R16_15, R16_16, R16_17, R16_18, R16_19, R16_20, R16_21, R16_22, R16_23, R16_24, Try.f16, lpL16_0, lpM16_0, M16_0, L16_0, loopRun_succ, wrap_1, wrap_00, ndE, ndL_c, ndL_n, ha, hw, ndL_length, hlt, hBt, w1, w2, w3, g1, ndL_dropI, ndL_takeI, hd, u1, u2]
          · refine key (if s2 > p2 then s2 else p2) (by simp only [opF]; simp; split <;> split <;> omega) ?_
            simp [R16_0, R16_1, R16_2, R16_3, R16_4, R16_5, R16_6, R16_7, R16_8, R16_9, R16_10, R16_11, R16_12, R16_13, R16_14, R16_15, R16_16, R16_17, R16_18, R16_19, R16_20, R16_21, R16_22, R16_23, R16_24, Try.f16, lpL16_0, lpM16_0, M16_0, L16_0, loopRun_succ, wrap_1, wrap_00, ndE, ndL_c, ndL_n, ha, hw, ndL_length, hlt, hBt, w1, w2, w3, g1, ndL_dropI, ndL_takeI, hd, u1, u2]
        · refine ⟨0, false, ?_, .inr ⟨rfl, by simp [hs2]⟩⟩
          have hs2b : (s1 == 2) = false := by simpa using hs2
          simp [R16_0, R16_1, R16_2, R16_3, R16_4, R16_5, R16_6, R16_7, R16_8, R16_9, R16_10, R16_11, R16_12, R16_13, R16_14, R16_15, R16_16, R16_17, R16_18, R16_19, R16_20, R16_21, R16_22, R16_23, R16_24, Try.f16, lpL16_0, lpM16_0, M16_0, L16_0, loopRun_succ, wrap_1, wrap_00, ndE, ndL_c, ndL_n, ha, hw, ndL_length, hlt, hBt, w1, w2, w3, g1, ndL_dropI, ndL_takeI, hd, hp2, hs2, hs2b]
      · refine ⟨0, false, ?_, .inr ⟨rfl, by simp [hp2]⟩⟩
        have hp2b : (p1 == 2) = false := by simpa using hp2
        simp [R16_0, R16_1, R16_2, R16_3, R16_4, R16_5, R16_6, R16_7, R16_8, R16_9, R16_10, R16_11, R16_12, R16_13, R16_14, R16_15, R16_16, R16_17, R16_18, R16_19, R16_20, R16_21, R16_22, R16_23, R16_24, Try.f16, lpL16_0, lpM16_0, M16_0, L16_0, loopRun_succ, wrap_1, wrap_00, ndE, ndL_c, ndL_n, ha, hw, ndL_length, hlt, hBt, w1, w2, w3, g1, ndL_dropI, ndL_takeI, hd, hp2, hp2b]
    · have e0 : arI (l.getD i (0, 0)) = 0 := by
        rcases ar_cases (l.getD i (0, 0)) with e | e | e | e
        · exact e
        · exfalso
          unfold arI at e
          split at e
          · omega
          · split at e
            · omega
            · split at e <;> omega
        · exfalso
          unfold arI at e
          split at e
          · omega
          · split at e
            · omega
            · split at e <;> omega
        · omega
      rw [e0] at ha
      refine ⟨0, false, ?_, .inr ⟨rfl, by unfold fv; rw [if_neg h7, if_neg h36]⟩⟩
      rw [hB]
      obtain ⟨q, hq⟩ : ∃ q, l.getD i (0, 0) = q := ⟨_, rfl⟩
      rw [hq] at ha ⊢
      obtain ⟨q1, q2⟩ := q
      simp [ndE] at ha
      simp [R16_0, R16_1, R16_2, R16_3, R16_4, R16_5, R16_6, R16_7, R16_8, R16_9, R16_10, R16_11, R16_12, R16_13, R16_14, R16_15, R16_16, R16_17, R16_18, R16_19, R16_20, R16_21, R16_22, R16_23, R16_24, Try.f16, lpL16_0, lpM16_0, M16_0, ndE, ha]
theorem c_l5Number (k : Nat) (q : Int × Int) (hk : 1 ≤ k) : callK C k 21 [.ag (ndE q)] [] = some (.c (.bool (q.1 == 2)), hpOf [] []) := by
  obtain ⟨k, rfl⟩ : ∃ m, k = m + 1 := ⟨k - 1, by omega⟩
  rw [callK_fn rfl F21 code21]
  simp [R21_0, R21_1, Try.f21, ndE]
theorem opG_F {k a b : Int} (h : 3 ≤ k) (h' : k ≤ 6) : opG (k - 2) a b = opF k a b := by
  rcases (show k = 3 ∨ k = 4 ∨ k = 5 ∨ k = 6 by omega) with rfl | rfl | rfl | rfl <;> simp [opG, opF]
theorem num_cell {v : Int} (h : 0 ≤ v ∧ v ≤ 9000) : cellB v = true := by
  simp [cellB]; omega
theorem c_l5Folded (k : Nat) (b : Bool) (l : List (Int × Int)) (i : Nat) (hi : i < l.length) (h15 : l.length ≤ 15) (hr : 0 ≤ runO l l.length) (hk : 20 ≤ k) :
    ∃ v s, callK C k 12 [.sq b true 2 (ndL l), .c (.int .i64 (i : Int))] [] = some (.tp [.c (.int .i64 v), .c (.int .i64 s)], hpOf [] []) ∧ ((fv l i = none ∧ s = 0) ∨ ∃ c : Nat, fv l i = some (c, v) ∧ s = (c : Int) + 1) := by
  obtain ⟨k, rfl⟩ : ∃ m, k = m + 9 := ⟨k - 9, by omega⟩
  rw [callK_fn rfl F12 code12]
  obtain ⟨r1, r2, r3, r4⟩ := runAt hr i hi
  have hle := runO_le l i
  have ha := c_l5Arity (k + 8) (l.getD i (0, 0)) (by omega)
  have hN := fun q => c_l5Number (k + 8) q (by omega)
  have hI := fun x => c_l1In (k + 8) x 0 9000 (by omega)
  have gi := ndL_get l i hi
  have gd := getD_nd hi
  have z0 : (0 : Int) ≤ (i : Int) := by omega
  by_cases h7 : (l.getD i (0, 0)).1 = 7
  · have e1 := ar_above r2 h7
    obtain ⟨m, rfl⟩ : ∃ m, i = m + 1 := ⟨i - 1, by omega⟩
    have gm := ndL_get l m (by omega)
    have gd2 := getD_nd (l := l) (i := m) (by omega)
    have hf : fv l (m + 1) = if (l.getD m (0, 0)).1 = 2 then some (1, if (l.getD m (0, 0)).2 > (l.getD (m + 1) (0, 0)).2 then 1 else 0) else none := by
      unfold fv
      rw [if_pos h7]
      rfl
    rw [hf]
    rw [e1] at ha
    rw [gd] at ha h7 ⊢
    rw [gd2]
    obtain ⟨q, hq⟩ : ∃ q, l[m + 1] = q := ⟨_, rfl⟩
    obtain ⟨p, hp⟩ : ∃ p, l[m] = p := ⟨_, rfl⟩
    rw [hq] at ha h7 gi ⊢
    rw [hp] at gm ⊢
    obtain ⟨q1, q2⟩ := q
    obtain ⟨p1, p2⟩ := p
    simp only [] at h7 ⊢
    subst h7
    have z1 : (0 : Int) ≤ (m : Int) + 1 := by omega
    have z2 : ((m : Int) + 1).toNat = m + 1 := by omega
    have n1 := hN (p1, p2)
    have w1 : IntKind.i64.wrap (m : Int) = (m : Int) := wrap_small (by omega) (by omega)
    have w2 : IntKind.i64.wrap ((m : Int) + 1) = (m : Int) + 1 := wrap_small (by omega) (by omega)
    simp [ndE] at ha n1 gi gm
    by_cases hp2 : p1 = 2
    · subst hp2
      by_cases hgt : p2 > q2
      · refine ⟨1, 2, ?_, .inr ⟨1, by simp [hgt], by simp⟩⟩
        simp at n1
        simp [R12_0, R12_1, R12_2, R12_3, R12_4, R12_5, R12_6, R12_7, R12_8, R12_9, R12_10, Try.f12, undef, ndE, ha, n1, gi, gm, z1, z2, w1, w2, hgt]
      · refine ⟨0, 2, ?_, .inr ⟨1, by simp [hgt], by simp⟩⟩
        simp at n1
        simp [R12_0, R12_1, R12_2, R12_3, R12_4, R12_5, R12_6, R12_7, R12_8, R12_9, R12_10, Try.f12, undef, ndE, ha, n1, gi, gm, z1, z2, w1, w2, hgt]
    · refine ⟨0, 0, ?_, .inl ⟨by simp [hp2], rfl⟩⟩
      have hp2b : (p1 == 2) = false := by simpa using hp2
      rw [hp2b] at n1
      simp [R12_0, R12_1, R12_2, R12_3, R12_4, R12_5, R12_6, R12_7, R12_8, R12_9, R12_10, Try.f12, undef, ndE, ha, n1, gi, gm, z1, z2, w1, w2, hp2b]
  · by_cases h36 : 3 ≤ (l.getD i (0, 0)).1 ∧ (l.getD i (0, 0)).1 ≤ 6
    · have e1 := ar_two r2 h36
      obtain ⟨m, rfl⟩ : ∃ m, i = m + 2 := ⟨i - 2, by omega⟩
      have gm := ndL_get l m (by omega)
      have gd2 := getD_nd (l := l) (i := m) (by omega)
      have gs := ndL_get l (m + 1) (by omega)
      have gd3 := getD_nd (l := l) (i := m + 1) (by omega)
      have hf : fv l (m + 2) = (if (l.getD m (0, 0)).1 = 2 ∧ (l.getD (m + 1) (0, 0)).1 = 2 ∧ 0 ≤ opF (l.getD (m + 2) (0, 0)).1 (l.getD m (0, 0)).2 (l.getD (m + 1) (0, 0)).2 ∧ opF (l.getD (m + 2) (0, 0)).1 (l.getD m (0, 0)).2 (l.getD (m + 1) (0, 0)).2 ≤ 9000 then
          some (2, opF (l.getD (m + 2) (0, 0)).1 (l.getD m (0, 0)).2 (l.getD (m + 1) (0, 0)).2) else none) := by
        unfold fv
        rw [if_neg h7, if_pos h36]
        rfl
      rw [hf]
      rw [e1] at ha
      have rp := (runAt hr m (by omega)).2.1
      have rs := (runAt hr (m + 1) (by omega)).2.1
      rw [gd] at ha h36 h7 ⊢
      rw [gd2] at rp ⊢
      rw [gd3] at rs ⊢
      obtain ⟨q, hq⟩ : ∃ q, l[m + 2] = q := ⟨_, rfl⟩
      obtain ⟨p, hp⟩ : ∃ p, l[m] = p := ⟨_, rfl⟩
      obtain ⟨s, hs⟩ : ∃ s, l[m + 1] = s := ⟨_, rfl⟩
      rw [hq] at ha h36 h7 gi ⊢
      rw [hp] at gm rp ⊢
      rw [hs] at gs rs ⊢
      obtain ⟨q1, q2⟩ := q
      obtain ⟨p1, p2⟩ := p
      obtain ⟨s1, s2⟩ := s
      simp only [] at h36 h7 ⊢
      have z1 : (0 : Int) ≤ (m : Int) + 1 := by omega
      have z2 : ((m : Int) + 1).toNat = m + 1 := by omega
      have z3 : (0 : Int) ≤ (m : Int) + 2 := by omega
      have z4 : ((m : Int) + 2).toNat = m + 2 := by omega
      have n1 := hN (p1, p2)
      have n2 := hN (s1, s2)
      have w1 : IntKind.i64.wrap (m : Int) = (m : Int) := wrap_small (by omega) (by omega)
      have w2 : IntKind.i64.wrap ((m : Int) + 1) = (m : Int) + 1 := wrap_small (by omega) (by omega)
      have w3 : IntKind.i64.wrap ((m : Int) + 2 - 1) = (m : Int) + 1 := by rw [wrap_small (by omega) (by omega)]; omega
      have w4 : IntKind.i64.wrap ((m : Int) + 2 - 2) = (m : Int) := by rw [wrap_small (by omega) (by omega)]; omega
      have w5 : IntKind.i64.wrap (IntKind.i64.wrap (q1 - 3) + 1) = q1 - 2 := by rw [show IntKind.i64.wrap (q1 - 3) = q1 - 3 from wrap_small (by omega) (by omega), wrap_small (by omega) (by omega)]; omega
      have h7b : (q1 == 7) = false := by simpa using h7
      simp [ndE] at ha n1 n2 gi gm gs
      by_cases hs2 : s1 = 2
      · obtain ⟨_, a3, a4⟩ := ar_num rs hs2
        simp only [] at a3 a4
        by_cases hp2 : p1 = 2
        · obtain ⟨_, a1, a2⟩ := ar_num rp hp2
          simp only [] at a1 a2
          subst hp2
          subst hs2
          have ho := c_l4Op (k + 8) (q1 - 2) p2 s2 (by omega) (num_cell ⟨a1, a2⟩) (num_cell ⟨a3, a4⟩)
          rw [opG_F h36.1 h36.2] at ho
          obtain ⟨v, hv⟩ : ∃ v, opF q1 p2 s2 = v := ⟨_, rfl⟩
          rw [hv] at ho ⊢
          have hi2 := hI v
          simp at n1 n2
          by_cases hok : 0 ≤ v ∧ v ≤ 9000
          · refine ⟨v, 3, ?_, .inr ⟨2, by simp [hok], by simp⟩⟩
            simp [R12_0, R12_1, R12_2, R12_3, R12_4, R12_5, R12_6, R12_7, R12_8, R12_9, R12_10, Try.f12, undef, ndE, ha, n1, n2, gi, gm, gs, z1, z2, z3, z4, w1, w2, w3, w4, w5, h7, h7b, ho, hi2, hok]
          · refine ⟨0, 0, ?_, .inl ⟨by rw [if_neg (fun h => hok h.2.2)], rfl⟩⟩
            have hokb : (decide (0 ≤ v) && decide (v ≤ 9000)) = false := by
              simp only [Bool.and_eq_false_iff, decide_eq_false_iff_not]; omega
            rw [hokb] at hi2
            simp [R12_0, R12_1, R12_2, R12_3, R12_4, R12_5, R12_6, R12_7, R12_8, R12_9, R12_10, Try.f12, undef, ndE, ha, n1, n2, gi, gm, gs, z1, z2, z3, z4, w1, w2, w3, w4, w5, h7, h7b, ho, hi2]
        · refine ⟨0, 0, ?_, .inl ⟨by simp [hp2], rfl⟩⟩
          have hp2b : (p1 == 2) = false := by simpa using hp2
          rw [hp2b] at n1
          subst hs2
          simp at n2
          simp [R12_0, R12_1, R12_2, R12_3, R12_4, R12_5, R12_6, R12_7, R12_8, R12_9, R12_10, Try.f12, undef, ndE, ha, n1, n2, gi, gm, gs, z1, z2, z3, z4, w1, w2, w3, w4, w5, h7, h7b]
      · refine ⟨0, 0, ?_, .inl ⟨by simp [hs2], rfl⟩⟩
        have hs2b : (s1 == 2) = false := by simpa using hs2
        rw [hs2b] at n2
        simp [R12_0, R12_1, R12_2, R12_3, R12_4, R12_5, R12_6, R12_7, R12_8, R12_9, R12_10, Try.f12, undef, ndE, ha, n1, n2, gi, gm, gs, z1, z2, z3, z4, w1, w2, w3, w4, w5, h7, h7b]
    · have e0 : arI (l.getD i (0, 0)) ≠ 2 := by
        intro e
        unfold arI at e
        split at e
        · omega
        · split at e
          · omega
          · split at e <;> omega
      refine ⟨0, 0, ?_, .inl ⟨by unfold fv; rw [if_neg h7, if_neg h36], rfl⟩⟩
      rw [gd] at ha h7 e0
      obtain ⟨q, hq⟩ : ∃ q, l[i] = q := ⟨_, rfl⟩
      rw [hq] at ha h7 e0 gi
      obtain ⟨q1, q2⟩ := q
      simp only [] at h7
      have h7b : (q1 == 7) = false := by simpa using h7
      obtain ⟨a, hA⟩ : ∃ a, arI (q1, q2) = a := ⟨_, rfl⟩
      rw [hA] at ha e0
      have e0b : (a == 2) = false := by simpa using e0
      simp [ndE] at ha gi
      simp [R12_0, R12_1, R12_2, R12_3, R12_4, R12_5, R12_6, R12_7, R12_8, R12_9, R12_10, Try.f12, undef, ndE, ha, gi, h7, h7b, e0, e0b]

end Go.Proofs.Ytllneakafpldjaa.Eng
