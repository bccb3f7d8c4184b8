/- A deterministic reading of Go code over plain data: what functions of the program compute. No conditions. -/
import Derived.Test.YtllneakafpldjaaLmbase
import Derived.Test.YtllneakafpldjaaLmimpl
import Derived.Test.YtllneakafpldjaaLmgood
import Derived.Test.YtllneakafpldjaaLmminmax
import Derived.Test.YtllneakafpldjaaLmnodes
import Derived.Test.YtllneakafpldjaaLmnodefn
import Derived.Test.YtllneakafpldjaaEngT
namespace Go.Proofs.Ytllneakafpldjaa.Eng
open Go Go.Proofs
set_option maxRecDepth 100000
set_option maxHeartbeats 2000000
set_option linter.unusedSimpArgs false
set_option linter.unusedVariables false
attribute [local simp] finK fin1 hpOf xi renQ isRoot runCode runOps Eng.step wantedV astep val ofO made loadV storeV find V.cells bin binT binA numT numFs eqCells un1 setAt fieldAddrV fieldV indexAddrV indexV bounds sliceV convV lenV foldV max2V min2V callO bor rdsO wrsO seen_none okD_none loops keepIds resV resultsV St.ev TK.agg refs refsL refsO V.one V.isC Value.oneCell' ren renL renO noTag noTagL noTagR noTagO nodup mapO passV frs psi refsR newD loopNext opsAt idx flatAt rootOf backR newsV appendV copyV clearV strV bytesV bldV bufV selfV bytesOf nilCmp buildV fillF chunk
attribute [local simp] cT cF cX cWR cOW cK cBL X ints_length ints_get ints_getElem ints_drop ints_take ints_append ints_nil ints_set
attribute [local simp] ints_replicate
attribute [local simp] putV_some putV_none putH_app applyD_nil applyD_cons seen_app gc_ρ gc_H gc_tick st0_ρ st0_H st0_tick retV callRo callV_if borL_nil borL_cons ints_snoc take_self callWr cutH_app findQ afterV exportV_0 exportV_n okD_nil okD_cons sub_seq0 sub_seq1 sub_cond0 sub_cond1 sub_block sub_loop sub_nil young_far young_none hidW_nil mayW_nil pairs okI ok_0 ok_1 ok_2
attribute [local simp] T3 T4 T22 T24 T35 T37
theorem c_IsExpression (k : Nat) (b : Bool) (l : List (Int × Int)) (hk : 100 ≤ k) : callK C k 14 [.sq b true 2 (ndL l)] [] = some (.c (.bool (goodE l)), hpOf [] []) := by
  obtain ⟨k, rfl⟩ : ∃ m, k = m + 1 := ⟨k - 1, by omega⟩
  rw [callK_fn rfl F14 code14]
  by_cases h15 : l.length ≤ 15
  · have h15' : ¬ (15 : Int) < (l.length : Int) := by omega
    have hag := fun q => c_arguments k q (by omega)
    have hnd := fun q => c_isNode k q (by omega)
    by_cases hg : 0 ≤ runO l l.length
    · have hL := loopHas (body := fun st => runCode C (callK C (k + 0)) (k + 0) (K 14) L14_0 1 st) (keep := [3, 9, 10, 11]) (.ex 0) (fun st => st.ρ 3 = .c (.int .i64 (runO l l.length)))
        (fun i st => st.ρ 9 = .sq b true 2 (ndL l) ∧ st.ρ 10 = .c (.int .i64 (l.length : Int)) ∧ st.ρ 3 = .c (.int .i64 (runO l i)) ∧ st.ρ 11 = .c (.int .i64 (i : Int)))
        l.length (k + 0) (by omega)
        (by
          rintro i st next hi ⟨q9, q10, q3, q11⟩ hn
          have hgi : 0 ≤ runO l (i + 1) := runO_mono hg (l.length - (i + 1)) (i + 1) (by omega)
          obtain ⟨r1, r2, r3, r4⟩ := runO_back hgi
          rw [getD_nd hi] at r2 r3 r4
          have r5 := runO_le l i
          have nget := ndL_get l i hi
          have ha := hag l[i]
          have hd := hnd l[i]
          rw [argI_eq r2] at ha
          have g2 : ¬ runO l i - arI l[i] < 0 := by omega
          have w1 : IntKind.i64.wrap (runO l i - arI l[i]) = runO l i - arI l[i] := wrap_small (by omega) (by omega)
          have w2 : IntKind.i64.wrap (runO l i - arI l[i] + 1) = runO l (i + 1) := by rw [r4]; exact wrap_small (by omega) (by omega)
          simp [ndE] at ha hd
          simp [L14_0, R14_0, R14_1, R14_2, R14_3, R14_4, R14_5, R14_6, R14_7, R14_8, R14_9, R14_10, R14_11, R14_12, Try.f14, lpL14_0, lpM14_0, M14_0, q9, q10, q3, q11, hi, nget, ndL_at, ndE, ha, hd, r2, g2, w1, w2, wrap_next hi (by omega : l.length ≤ 9000000000000000000)]
          exact hn _ (by simp [q9, q10]))
        (by
          rintro st next ⟨q9, q10, q3, q11⟩
          simp [L14_0, R14_0, R14_1, R14_2, R14_3, R14_4, R14_5, R14_6, R14_7, R14_8, R14_9, R14_10, R14_11, R14_12, Try.f14, lpL14_0, lpM14_0, M14_0, q9, q10, q3, q11])
      simp [R14_0, R14_1, R14_2, R14_3, R14_4, R14_5, R14_6, R14_7, R14_8, R14_9, R14_10, R14_11, R14_12, Try.f14, lpL14_0, lpM14_0, ndL_length, h15']
      generalize hr : loopRun _ _ _ _ = res
      obtain ⟨s1, rfl, f3⟩ := loop_at hL hr (by simp [runO, ndL_length])
      simp [R14_0, R14_1, R14_2, R14_3, R14_4, R14_5, R14_6, R14_7, R14_8, R14_9, R14_10, R14_11, R14_12, Try.f14, lpL14_0, lpM14_0, M14_0, f3, goodE, h15]
      try (by_cases h1 : runO l l.length = 1 <;> simp [h1])
    · have hL := loopHas (body := fun st => runCode C (callK C (k + 0)) (k + 0) (K 14) L14_0 1 st) (keep := [3, 9, 10, 11]) .ret (fun st => st.ρ 2 = .c (.bool false))
        (fun i st => st.ρ 9 = .sq b true 2 (ndL l) ∧ st.ρ 10 = .c (.int .i64 (l.length : Int)) ∧ st.ρ 3 = .c (.int .i64 (runO l i)) ∧ st.ρ 11 = .c (.int .i64 (i : Int)) ∧ 0 ≤ runO l i)
        l.length (k + 0) (by omega)
        (by
          rintro i st next hi ⟨q9, q10, q3, q11, r1⟩ hn
          have r5 := runO_le l i
          have nget := ndL_get l i hi
          have ha := hag l[i]
          have hd := hnd l[i]
          have hs := runO_succ l i
          rw [getD_nd hi] at hs
          have hca := ar_cases l[i]
          obtain ⟨ab1, ab2⟩ := arg_bound l[i]
          have w1 : IntKind.i64.wrap (runO l i - argI l[i]) = runO l i - argI l[i] := wrap_small (by omega) (by omega)
          by_cases g1 : arI l[i] < 0
          · have g1' : ¬ 0 ≤ arI l[i] := by omega
            simp [ndE] at ha hd
            simp [L14_0, R14_0, R14_1, R14_2, R14_3, R14_4, R14_5, R14_6, R14_7, R14_8, R14_9, R14_10, R14_11, R14_12, Try.f14, lpL14_0, lpM14_0, M14_0, q9, q10, q3, q11, hi, nget, ndL_at, ndE, ha, hd, w1, g1']
          · have g1' : 0 ≤ arI l[i] := by omega
            rw [argI_eq g1'] at ha w1
            by_cases g2 : runO l i - arI l[i] < 0
            · simp [ndE] at ha hd
              simp [L14_0, R14_0, R14_1, R14_2, R14_3, R14_4, R14_5, R14_6, R14_7, R14_8, R14_9, R14_10, R14_11, R14_12, Try.f14, lpL14_0, lpM14_0, M14_0, q9, q10, q3, q11, hi, nget, ndL_at, ndE, ha, hd, w1, g1', g2]
            · rw [if_neg (by omega)] at hs
              have w2 : IntKind.i64.wrap (runO l i - arI l[i] + 1) = runO l (i + 1) := by rw [hs]; exact wrap_small (by omega) (by omega)
              simp [ndE] at ha hd
              simp [L14_0, R14_0, R14_1, R14_2, R14_3, R14_4, R14_5, R14_6, R14_7, R14_8, R14_9, R14_10, R14_11, R14_12, Try.f14, lpL14_0, lpM14_0, M14_0, q9, q10, q3, q11, hi, nget, ndL_at, ndE, ha, hd, g1', g2, w1, w2, wrap_next hi (by omega : l.length ≤ 9000000000000000000)]
              exact hn _ ⟨by simp [q9], by simp [q10], by simp, by simp, by omega⟩)
        (by
          rintro st next ⟨q9, q10, q3, q11, r1⟩
          omega)
      have hg1 : goodE l = false := by
        have : ¬ runO l l.length = 1 := by omega
        simp [goodE, this]
      simp [R14_0, R14_1, R14_2, R14_3, R14_4, R14_5, R14_6, R14_7, R14_8, R14_9, R14_10, R14_11, R14_12, Try.f14, lpL14_0, lpM14_0, ndL_length, h15']
      generalize hr : loopRun _ _ _ _ = res
      obtain ⟨s1, rfl, f2⟩ := loop_at hL hr (by simp [runO, ndL_length])
      simp [R14_0, R14_1, R14_2, R14_3, R14_4, R14_5, R14_6, R14_7, R14_8, R14_9, R14_10, R14_11, R14_12, Try.f14, lpL14_0, lpM14_0, M14_0, f2, hg1]
  · have h15' : (15 : Int) < (l.length : Int) := by omega
    simp [R14_0, R14_1, R14_2, R14_3, R14_4, R14_5, R14_6, R14_7, R14_8, R14_9, R14_10, R14_11, R14_12, Try.f14, lpL14_0, lpM14_0, M14_0, ndL_length, h15', goodE, h15]

end Go.Proofs.Ytllneakafpldjaa.Eng
